/- Conditions: none. -/
import Derived.RowKit
import Derived.Test.YtkdendlgaaimbaaYCPl
namespace Go.Proofs.Ytkdendlgaaimbaa.X
open Go.RowKit
instance : DecidableEq Tm := fun s t => if h : s.f0 = t.f0 ∧ s.f1 = t.f1 then isTrue (Tm.ext' h.1 h.2) else isFalse (fun e => h ⟨by rw [e], by rw [e]⟩)
instance : DecidableEq Rw := fun s t => if h : s.f0 = t.f0 ∧ s.f1 = t.f1 ∧ s.f2 = t.f2 ∧ s.f3 = t.f3 then isTrue (Rw.ext' h.1 h.2.1 h.2.2.1 h.2.2.2) else isFalse (fun e => h ⟨by rw [e], by rw [e], by rw [e], by rw [e]⟩)
instance : DecidableEq It := fun s t => if h : s.f0 = t.f0 ∧ s.f1 = t.f1 ∧ s.f2 = t.f2 then isTrue (It.ext' h.1 h.2.1 h.2.2) else isFalse (fun e => h ⟨by rw [e], by rw [e], by rw [e]⟩)
instance : Inhabited Tm := ⟨⟨0, 0⟩⟩
instance : Inhabited Rw := ⟨⟨0, 0, ⟨0, 0⟩, 0⟩⟩
instance : Inhabited It := ⟨⟨0, 0, 0⟩⟩
def tOk (t : Tm) : Bool := decide (0 ≤ t.f0) && decide (t.f0 ≤ 7) && decide (0 ≤ t.f1) && decide (t.f1 ≤ 7)
def below (s t : Tm) : Bool := decide (s.f0 ≤ t.f0) && decide (s.f1 ≤ t.f1)
def tLess (s t : Tm) : Bool := tOk s && tOk t && below s t
def rowOk (r : Rw) : Bool := decide (0 ≤ r.f0) && decide (r.f0 < 4) && decide (0 ≤ r.f1) && decide (r.f1 < 100) && tOk r.f2 && decide (-99999 ≤ r.f3) && decide (r.f3 ≤ 99999)
def rowsOk (l : List Rw) : Bool := l.all rowOk && decide (l.length ≤ 400)
def neg (r : Rw) : Rw := { r with f3 := wrap64 (-r.f3) }
def presentOf (l : List Rw) (t : Tm) : List It := (l.filter fun r => below r.f2 t).map itemOf
def present (l : List Rw) (t : Tm) : List It := items (presentOf l t)
def batchAt (l : List Rw) (t : Tm) : List It := if rowsOk l && tOk t then present l t else []
end Go.Proofs.Ytkdendlgaaimbaa.X
namespace Go.Proofs.Ytkdendlgaaimbaa.X
open Go.RowKit
theorem take1 {α : Type} {l : List α} {k : Nat} {x : α} (hx : l[k]? = some x) : l.take (k + 1) = l.take k ++ [x] := by
 obtain ⟨hlt, rfl⟩ := List.getElem?_eq_some_iff.1 hx
 exact List.take_succ_eq_append_getElem hlt
def lexi : List Int → List Int → Int
 | x :: xs, y :: ys => if x < y then -1 else if x > y then 1 else lexi xs ys
 | _, _ => 0
theorem comp_lexi (a b : Rw) : comp a b = lexi [a.f0, a.f1, a.f2.f0, a.f2.f1] [b.f0, b.f1, b.f2.f0, b.f2.f1] := rfl
end Go.Proofs.Ytkdendlgaaimbaa.X
namespace Go.Proofs.Ytkdendlgaaimbaa.X
open Go.RowKit
end Go.Proofs.Ytkdendlgaaimbaa.X
namespace Go.Proofs.Ytkdendlgaaimbaa.X
open Go.RowKit
instance (x r : Rw) : Decidable (sameR x r) := by unfold sameR; infer_instance
end Go.Proofs.Ytkdendlgaaimbaa.X
namespace Go.Proofs.Ytkdendlgaaimbaa.X
open Go.RowKit
set_option linter.unusedVariables false
def sItem (x : It) : Bool := decide (0 ≤ x.f0) && decide (x.f0 ≤ 3) && (decide (0 ≤ x.f1) && decide (x.f1 ≤ 99)) && decide (x.f2 ≠ 0)
def sOk (x : It) : Bool := sItem x && (decide (-1099511627776 ≤ x.f2) && decide (x.f2 ≤ 1099511627776))
def sNext (p x : It) : Bool := !(decide (p.f0 > x.f0) || (decide (p.f0 = x.f0) && decide (p.f1 ≥ x.f1)))
def sGo (p : It) : List It → Bool
 | [] => true
 | x :: l => sOk x && sNext p x && sGo x l
def sAsc : List It → Bool
 | [] => true
 | x :: l => sOk x && sGo x l
def setOk (l : List It) : Bool := decide (l.length ≤ 400) && sAsc l
theorem sGo_snoc (p : It) : ∀ (l : List It) (y x : It), sGo p (l ++ [y]) = true → sGo p (l ++ [y, x]) = (sOk x && sNext y x)
 | [], y, x, h => by simp [sGo] at h ⊢; simp [h]
 | t :: l, y, x, h => by
  simp only [List.cons_append, sGo, Bool.and_eq_true] at h ⊢
  rw [sGo_snoc t l y x h.2, h.1.1, h.1.2]; rfl
theorem sAsc_snoc : ∀ (l : List It) (y x : It), sAsc (l ++ [y]) = true → sAsc (l ++ [y, x]) = (sOk x && sNext y x)
 | [], y, x, h => by simp [sAsc, sGo] at h ⊢; simp [h]
 | t :: l, y, x, h => by
  simp only [List.cons_append, sAsc, Bool.and_eq_true] at h ⊢
  rw [sGo_snoc t l y x h.2, h.1]; rfl
theorem sAsc_next {l : List It} {j : Nat} {x y : It} (h : sAsc (l.take (j + 1)) = true) (hy : l[j]? = some y) (hx : l[j + 1]? = some x) : sAsc (l.take (j + 1 + 1)) = (sOk x && sNext y x) := by
 rw [take1 hx, take1 hy, List.append_assoc]
 rw [take1 hy] at h
 exact sAsc_snoc _ y x h
theorem sAsc_first {l : List It} {x : It} {k : Nat} (hx : l[k]? = some x) (hk : ¬ 0 < k) : sAsc (l.take (k + 1)) = sOk x := by
 obtain rfl : k = 0 := by omega
 rw [take1 hx]; simp [sAsc, sGo]
theorem sGo_take (p : It) : ∀ (l : List It) (k : Nat), sGo p l = true → sGo p (l.take k) = true
 | _, 0, _ => by simp [sGo]
 | [], k + 1, _ => by simp [sGo]
 | t :: l, k + 1, h => by
  simp only [List.take_succ_cons, sGo, Bool.and_eq_true] at h ⊢
  exact ⟨h.1, sGo_take t l k h.2⟩
theorem sAsc_take : ∀ (l : List It) (k : Nat), sAsc l = true → sAsc (l.take k) = true
 | _, 0, _ => by simp [sAsc]
 | [], k + 1, _ => by simp [sAsc]
 | t :: l, k + 1, h => by
  simp only [List.take_succ_cons, sAsc, Bool.and_eq_true] at h ⊢
  exact ⟨h.1, sGo_take t l k h.2⟩
theorem sAsc_false {l : List It} (k : Nat) (h : sAsc (l.take k) = false) : sAsc l = false := by
 cases e : sAsc l
 ·rfl
 ·rw [sAsc_take l k e] at h; cases h
theorem sAsc_done {l : List It} {k : Nat} (h : sAsc (l.take k) = true) (hk : ¬ k < l.length) : sAsc l = true := by rwa [List.take_of_length_le (by omega)] at h
end Go.Proofs.Ytkdendlgaaimbaa.X
namespace Go.Proofs.Ytkdendlgaaimbaa.X
open Go.RowKit
set_option linter.unusedVariables false
set_option linter.unusedSimpArgs false
def sg {α : Type} (f : α → Int) : List α → Int
 | [] => 0
 | x :: l => f x + sg f l
section
variable {α β : Type}
theorem sg_append (f : α → Int) : ∀ l m : List α, sg f (l ++ m) = sg f l + sg f m
 | [], m => by simp [sg]
 | x :: l, m => by simp only [List.cons_append, sg]; rw [sg_append f l m]; omega
theorem sg_map (f : β → Int) (g : α → β) : ∀ l : List α, sg f (l.map g) = sg (fun x => f (g x)) l
 | [] => rfl
 | x :: l => by simp only [List.map_cons, sg]; rw [sg_map f g l]
theorem sg_filter (f : α → Int) (p : α → Bool) : ∀ l : List α, sg f (l.filter p) = sg (fun x => if p x = true then f x else 0) l
 | [] => rfl
 | x :: l => by
  by_cases h : p x = true
  ·rw [List.filter_cons_of_pos h, sg, sg, if_pos h, sg_filter f p l]
  ·rw [List.filter_cons_of_neg h, sg, if_neg h, sg_filter f p l]; omega
theorem sg_congr {f g : α → Int} : ∀ {l : List α}, (∀ x ∈ l, f x = g x) → sg f l = sg g l
 | [], _ => rfl
 | x :: l, h => by rw [sg, sg, h x List.mem_cons_self, sg_congr (fun y hy => h y (List.mem_cons_of_mem _ hy))]
theorem sg_zero : ∀ {f : α → Int} {l : List α}, (∀ x ∈ l, f x = 0) → sg f l = 0
 | _, [], _ => rfl
 | f, x :: l, h => by rw [sg, h x List.mem_cons_self, sg_zero (fun y hy => h y (List.mem_cons_of_mem _ hy))]; rfl
theorem sg_le {f g : α → Int} : ∀ {l : List α}, (∀ x ∈ l, f x ≤ g x) → sg f l ≤ sg g l
 | [], _ => Int.le_refl _
 | x :: l, h => by
  have h1 := h x List.mem_cons_self
  have h2 := sg_le (l := l) (fun y hy => h y (List.mem_cons_of_mem _ hy))
  simp only [sg]; omega
theorem sg_nonneg {f : α → Int} {l : List α} (h : ∀ x ∈ l, 0 ≤ f x) : 0 ≤ sg f l := by
 have := sg_le (f := fun _ => 0) (g := f) (l := l) h
 rw [sg_zero (fun _ _ => rfl)] at this; exact this
theorem sg_mem_le {f : α → Int} : ∀ {l : List α}, (∀ x ∈ l, 0 ≤ f x) → ∀ x ∈ l, f x ≤ sg f l
 | y :: l, h, x, hx => by
  have h0 := h y List.mem_cons_self
  have h1 := sg_nonneg (fun z hz => h z (List.mem_cons_of_mem _ hz))
  rcases List.mem_cons.1 hx with rfl | hx
  ·rw [sg]; omega
  ·have := sg_mem_le (fun z hz => h z (List.mem_cons_of_mem _ hz)) x hx
   rw [sg]; omega
theorem sg_const (c : Int) : ∀ l : List α, sg (fun _ => c) l = c * l.length
 | [] => by simp [sg]
 | x :: l => by rw [sg, sg_const c l, List.length_cons]; rw [show ((l.length + 1 : Nat) : Int) = (l.length : Int) + 1 by omega, Int.mul_add]; omega
theorem sg_le_len {f : α → Int} {c : Int} {l : List α} (h : ∀ x ∈ l, f x ≤ c) : sg f l ≤ c * l.length := by rw [← sg_const]; exact sg_le h
end
theorem abs_tri (a b : Int) : ((a + b).natAbs : Int) ≤ a.natAbs + b.natAbs := by omega
theorem wrap_abs {a : Int} (h : (a.natAbs : Int) < 9223372036854775808) : wrap64 a = a := by unfold wrap64; omega
def mass (l : List Rw) : Int := sg (fun r => (r.f3.natAbs : Int)) l
theorem mass_nonneg (l : List Rw) : 0 ≤ mass l := sg_nonneg fun _ _ => Int.natCast_nonneg _
theorem mass_le {l : List Rw} {c : Int} (h : ∀ r ∈ l, (r.f3.natAbs : Int) ≤ c) : mass l ≤ c * l.length := sg_le_len h
theorem sameR_eq {x r : Rw} (h : sameR x r) : x.f0 = r.f0 ∧ x.f1 = r.f1 ∧ x.f2 = r.f2 := ⟨h.1, h.2.1, Tm.ext' h.2.2.1 h.2.2.2⟩
theorem put_sh (φ : Wt) (r : Rw) (s : List Rw) : (r.f3.natAbs : Int) + mass s < 9223372036854775808 → sg (sh φ) (put r s) = sh φ r + sg (sh φ) s ∧ mass (put r s) ≤ (r.f3.natAbs : Int) + mass s := by
 induction s with
 | nil => intro _; exact ⟨by simp [put, sg], by simp [put, mass, sg]⟩
 | cons x s ih =>
  intro h
  have hm : mass (x :: s) = (x.f3.natAbs : Int) + mass s := rfl
  rw [hm] at h ⊢
  have h0 := mass_nonneg s
  rw [put]
  by_cases h1 : 0 < comp x r
  ·rw [if_pos h1]; exact ⟨rfl, Int.le_refl _⟩
  ·rw [if_neg h1]
   by_cases h2 : comp x r = 0
   ·rw [if_pos h2]
    obtain ⟨e0, e1, e2⟩ := sameR_eq ((compR_zero x r).1 h2)
    have hw : wrap64 (r.f3 + x.f3) = r.f3 + x.f3 := wrap_abs (by omega)
    have ht := abs_tri r.f3 x.f3
    rw [hw]
    refine ⟨?_, ?_⟩
    ·simp only [sg, sh, e0, e1, e2, Int.add_mul]; omega
    ·show ((r.f3 + x.f3).natAbs : Int) + mass s ≤ _
     omega
   ·rw [if_neg h2]
    obtain ⟨i1, i2⟩ := ih (by omega)
    refine ⟨?_, ?_⟩
    ·simp only [sg]; rw [i1]; omega
    ·show (x.f3.natAbs : Int) + mass (put r s) ≤ _
     omega
theorem putAll_sh (φ : Wt) : ∀ (l s : List Rw), mass s + mass l < 9223372036854775808 → sg (sh φ) (putAll s l) = sg (sh φ) s + sg (sh φ) l ∧ mass (putAll s l) ≤ mass s + mass l
 | [], s, _ => ⟨by simp [putAll, sg], by simp [putAll, mass, sg]⟩
 | r :: l, s, h => by
  have hm : mass (r :: l) = (r.f3.natAbs : Int) + mass l := rfl
  rw [hm] at h ⊢
  have h0 := mass_nonneg l
  obtain ⟨i1, i2⟩ := put_sh φ r s (by omega)
  obtain ⟨j1, j2⟩ := putAll_sh φ l (put r s) (by omega)
  rw [putAll, j1, i1]
  exact ⟨by simp only [sg]; omega, by omega⟩
theorem nonZero_sh (φ : Wt) (l : List Rw) : sg (sh φ) (nonZero l) = sg (sh φ) l ∧ mass (nonZero l) = mass l := by
 unfold nonZero mass
 rw [sg_filter, sg_filter]
 exact ⟨sg_congr fun x _ => by by_cases h : x.f3 = 0 <;> simp [h, sh], sg_congr fun x _ => by by_cases h : x.f3 = 0 <;> simp [h]⟩
theorem sum_mass {l : List Rw} (h : mass l < 9223372036854775808) : mass (sum l) ≤ mass l := by
 unfold sum
 rw [(nonZero_sh (fun _ _ _ => 0) _).2]
 have := (putAll_sh (fun _ _ _ => 0) l [] (by simp only [mass, sg] at h ⊢; omega)).2
 simp only [mass, sg] at this ⊢; omega
theorem put_len (r : Rw) : ∀ s : List Rw, (put r s).length ≤ s.length + 1
 | [] => by simp [put]
 | x :: s => by
  rw [put]; split
  ·simp
  ·split
   ·simp
   ·have := put_len r s; simp; omega
theorem sum_len (l : List Rw) : (sum l).length ≤ l.length := by
 have go : ∀ (l s : List Rw), (putAll s l).length ≤ s.length + l.length := by
  intro l
  induction l with
  | nil => intro s; simp [putAll]
  | cons y l ih => intro s; have h1 := ih (put y s); have h2 := put_len y s; rw [putAll, List.length_cons]; omega
 have h1 := go l []
 have h2 := List.length_filter_le (fun r : Rw => decide (r.f3 ≠ 0)) (putAll [] l)
 unfold sum nonZero; simp at h1; omega
end Go.Proofs.Ytkdendlgaaimbaa.X
namespace Go.Proofs.Ytkdendlgaaimbaa.X
open Go.RowKit
set_option linter.unusedVariables false
set_option linter.unusedSimpArgs false
def massI (l : List It) : Int := sg (fun x => (x.f2.natAbs : Int)) l
theorem massI_nonneg (l : List It) : 0 ≤ massI l := sg_nonneg fun _ _ => Int.natCast_nonneg _
theorem massI_append (l m : List It) : massI (l ++ m) = massI l + massI m := sg_append _ _ _
theorem massI_mem {l : List It} {x : It} (h : x ∈ l) : (x.f2.natAbs : Int) ≤ massI l := sg_mem_le (f := fun x : It => (x.f2.natAbs : Int)) (fun _ _ => Int.natCast_nonneg _) x h
theorem massI_le {l : List It} {c : Int} (h : ∀ r ∈ l, (r.f2.natAbs : Int) ≤ c) : massI l ≤ c * l.length := sg_le_len h
theorem mass_rowOf (l : List It) : mass (l.map rowOf) = massI l := sg_map _ _ _
theorem mass_itemOf (l : List Rw) : massI (l.map itemOf) = mass l := sg_map _ _ _
theorem items_mass {l : List It} (h : massI l < 9223372036854775808) : massI (items l) ≤ massI l := by
 unfold items
 rw [mass_itemOf]
 have := sum_mass (l := l.map rowOf) (by rw [mass_rowOf]; exact h)
 rwa [mass_rowOf] at this
def ltI (x y : It) : Prop := x.f0 < y.f0 ∨ (x.f0 = y.f0 ∧ x.f1 < y.f1)
def canonI (l : List It) : Prop := l.Pairwise ltI ∧ ∀ x ∈ l, x.f2 ≠ 0
theorem items_length (l : List It) : (items l).length ≤ l.length := by
 have := sum_len (l.map rowOf)
 unfold items; simpa using this
def keyOk (x : It) : Prop := 0 ≤ x.f0 ∧ x.f0 ≤ 3 ∧ 0 ≤ x.f1 ∧ x.f1 ≤ 99
theorem setOk_canon {l : List It} (h : setOk l = true) : canonI l ∧ (∀ x ∈ l, keyOk x ∧ (x.f2.natAbs : Int) ≤ 1099511627776) ∧ l.length ≤ 400 := by
 have okc : ∀ x : It, sOk x = true → keyOk x ∧ x.f2 ≠ 0 ∧ (x.f2.natAbs : Int) ≤ 1099511627776 := fun x hx => by
  simp only [sOk, sItem, Bool.and_eq_true, decide_eq_true_eq] at hx
  unfold keyOk; omega
 have go : ∀ (l : List It) (p : It), sGo p l = true → (p :: l).Pairwise ltI ∧ ∀ x ∈ l, sOk x = true := by
  intro l
  induction l with
  | nil => intro p _; exact ⟨List.pairwise_singleton _ _, fun x hx => by cases hx⟩
  | cons y l ih =>
   intro p hp
   simp only [sGo, Bool.and_eq_true] at hp
   obtain ⟨⟨h1, h2⟩, h3⟩ := hp
   obtain ⟨i1, i2⟩ := ih y h3
   have h2' : ltI p y := by simp [sNext] at h2; unfold ltI; omega
   refine ⟨List.pairwise_cons.2 ⟨fun x hx => ?_, i1⟩, fun x hx => ?_⟩
   ·rcases List.mem_cons.1 hx with rfl | hx
    ·exact h2'
    ·have := (List.pairwise_cons.1 i1).1 x hx
     unfold ltI at this h2' ⊢; omega
   ·rcases List.mem_cons.1 hx with rfl | hx
    ·exact h1
    ·exact i2 x hx
 simp only [setOk, Bool.and_eq_true, decide_eq_true_eq] at h
 have hall : l.Pairwise ltI ∧ ∀ x ∈ l, sOk x = true := by
  cases l with
  | nil => exact ⟨List.Pairwise.nil, fun x hx => by cases hx⟩
  | cons x l =>
   simp only [sAsc, Bool.and_eq_true] at h
   obtain ⟨i1, i2⟩ := go l x h.2.2
   exact ⟨i1, fun y hy => (List.mem_cons.1 hy).elim (fun e => e ▸ h.2.1) (i2 y)⟩
 exact ⟨⟨hall.1, fun x hx => (okc x (hall.2 x hx)).2.1⟩, fun x hx => ⟨(okc x (hall.2 x hx)).1, (okc x (hall.2 x hx)).2.2⟩, h.1⟩
def setBoth (s t : List It) : List It := if setOk s && setOk t then items (s ++ t) else []
def negI (x : It) : It := { x with f2 := wrap64 (-x.f2) }
def setLess (s : List It) : List It := if setOk s then s.map negI else []
def jval (a b : Int) : Int := Int.tmod (wrap64 (wrap64 (10 * a) + b)) 100
def pairI (x y : It) : It := ⟨x.f0, jval x.f1 y.f1, wrap64 (x.f2 * y.f2)⟩
def pairs (s t : List It) : List It := s.flatMap fun x => (t.filter fun y => decide (x.f0 = y.f0)).map (pairI x)
def setJoin (s t : List It) : List It := if setOk s && setOk t then items (pairs s t) else []
def eachKV (a b : Int) (how : Int) : Option (Int × Int) :=
 if how = 1 then some (b % 4, b - b % 4 + a) else if how = 2 then some (a, (b + 1) % 100) else if how = 3 then some (b % 4, b) else if how = 4 then some (0, b)
 else if how = 5 then (if b % 2 = 0 then some (a, b) else none) else if how = 6 then (if a % 2 = 0 then some (a, b) else none) else if how = 7 then (if b < 10 then some (a, b) else none) else none
def eachI (how : Int) (x : It) : List It := match eachKV x.f0 x.f1 how with | some (a, b) => [⟨a, b, x.f2⟩] | none => []
def setEach (s : List It) (how : Int) : List It := if setOk s && decide (1 ≤ how) && decide (how ≤ 7) then items (s.flatMap (eachI how)) else []
theorem jval_eq {a b : Int} (ha : 0 ≤ a) (ha' : a ≤ 99) (hb : 0 ≤ b) (hb' : b ≤ 99) : jval a b = (10 * a + b) % 100 := by
 unfold jval
 have e1 : wrap64 (10 * a) = 10 * a := by unfold wrap64; omega
 have e2 : wrap64 (10 * a + b) = 10 * a + b := by unfold wrap64; omega
 rw [e1, e2, Int.tmod_eq_emod_of_nonneg (by omega)]
theorem eachKV_ok {a b how : Int} (ha : 0 ≤ a) (ha' : a ≤ 3) (hb : 0 ≤ b) (hb' : b ≤ 99) {p q : Int} (h : eachKV a b how = some (p, q)) : 0 ≤ p ∧ p ≤ 3 ∧ 0 ≤ q ∧ q ≤ 99 := by
 unfold eachKV at h
 repeat' split at h
 all_goals first | (simp only [Option.some.injEq, Prod.mk.injEq] at h; obtain ⟨rfl, rfl⟩ := h; omega) | cases h
theorem mass_eachI (how : Int) (x : It) : massI (eachI how x) ≤ (x.f2.natAbs : Int) ∧ (eachI how x).length ≤ 1 := by
 unfold eachI massI
 cases eachKV x.f0 x.f1 how with
 | none => simp [sg]
 | some p => obtain ⟨a, b⟩ := p; simp [sg]
theorem len_flatMap {α β : Type} {g : α → List β} {c : Nat} : ∀ {s : List α}, (∀ x ∈ s, (g x).length ≤ c) → (s.flatMap g).length ≤ c * s.length
 | [], _ => by simp
 | x :: s, h => by
  have h1 := h x List.mem_cons_self
  have h2 := len_flatMap (s := s) (fun y hy => h y (List.mem_cons_of_mem _ hy))
  rw [List.flatMap_cons, List.length_append, List.length_cons, Nat.mul_add]; omega
theorem len_each (how : Int) (s : List It) : (s.flatMap (eachI how)).length ≤ s.length := by
 have := len_flatMap (c := 1) (s := s) (fun x _ => (mass_eachI how x).2); omega
theorem key_each {how : Int} {s : List It} (h : ∀ x ∈ s, keyOk x) : ∀ y ∈ s.flatMap (eachI how), keyOk y := fun y hy => by
 obtain ⟨x, hx, hy⟩ := List.mem_flatMap.1 hy
 unfold eachI at hy
 cases he : eachKV x.f0 x.f1 how with
 | none => rw [he] at hy; cases hy
 | some p =>
  obtain ⟨a, b⟩ := p
  rw [he] at hy
  rw [List.mem_singleton.1 hy]
  obtain ⟨h0, h1, h2, h3⟩ := h x hx
  exact eachKV_ok h0 h1 h2 h3 he
end Go.Proofs.Ytkdendlgaaimbaa.X
