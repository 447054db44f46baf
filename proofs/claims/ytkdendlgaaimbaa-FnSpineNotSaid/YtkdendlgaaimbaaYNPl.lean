/- Conditions: none. -/
import Derived.RowKit
import Derived.Test.YtkdendlgaaimbaaYCPl
namespace Go.Proofs.Ytkdendlgaaimbaa.X
open Go.RowKit
instance : DecidableEq Tm := fun s t => if h : s.f0 = t.f0 ∧ s.f1 = t.f1 then isTrue (Tm.ext' h.1 h.2) else isFalse (fun e => h ⟨by rw [e], by rw [e]⟩)
instance : DecidableEq Rw := fun s t => if h : s.f0 = t.f0 ∧ s.f1 = t.f1 ∧ s.f2 = t.f2 ∧ s.f3 = t.f3 then isTrue (Rw.ext' h.1 h.2.1 h.2.2.1 h.2.2.2) else isFalse (fun e => h ⟨by rw [e], by rw [e], by rw [e], by rw [e]⟩)
instance : DecidableEq It := fun s t => if h : s.f0 = t.f0 ∧ s.f1 = t.f1 ∧ s.f2 = t.f2 then isTrue (It.ext' h.1 h.2.1 h.2.2) else isFalse (fun e => h ⟨by rw [e], by rw [e], by rw [e]⟩)
instance : Inhabited Tm := ⟨⟨0, 0⟩⟩
instance : Inhabited Rw := ⟨⟨0, 0, ⟨0, 0⟩, 0⟩⟩
instance : Inhabited It := ⟨⟨0, 0, 0⟩⟩
def tOk (t : Tm) : Bool := decide (0 ≤ t.f0) && decide (t.f0 ≤ 7) && decide (0 ≤ t.f1) && decide (t.f1 ≤ 7)
def below (s t : Tm) : Bool := decide (s.f0 ≤ t.f0) && decide (s.f1 ≤ t.f1)
def tLess (s t : Tm) : Bool := tOk s && tOk t && below s t
def tmax (x y : Int) : Int := if x < y then y else x
def tmin (x y : Int) : Int := if y < x then y else x
def tJoin (s t : Tm) : Tm := if tOk s && tOk t then ⟨tmax s.f0 t.f0, tmax s.f1 t.f1⟩ else ⟨0, 0⟩
def tMeet (s t : Tm) : Tm := if tOk s && tOk t then ⟨tmin s.f0 t.f0, tmin s.f1 t.f1⟩ else ⟨0, 0⟩
def step2 (p t : Tm) : Bool := decide (p.f0 < t.f0) && decide (t.f1 < p.f1)
def frontGo (p : Tm) : List Tm → Bool
 | [] => true
 | t :: f => tOk t && step2 p t && frontGo t f
def frontOk : List Tm → Bool
 | [] => true
 | t :: f => tOk t && frontGo t f
def beyond (f : List Tm) (t : Tm) : Bool := f.any fun s => below s t
def covers (f : List Tm) (t : Tm) : Bool := frontOk f && f.any fun s => tLess s t
def moveGo (t : Tm) (o : Tm) : List Tm → Tm
 | [] => o
 | s :: f => moveGo t (tMeet o (tJoin s t)) f
def moved (f : List Tm) (t : Tm) : Tm := match f with | [] => t | s :: r => moveGo t (tJoin s t) (s :: r)
def allOk (l : List Tm) : Bool := l.all tOk
def rowOk (r : Rw) : Bool := decide (0 ≤ r.f0) && decide (r.f0 < 4) && decide (0 ≤ r.f1) && decide (r.f1 < 100) && tOk r.f2 && decide (-99999 ≤ r.f3) && decide (r.f3 ≤ 99999)
def rowsOk (l : List Rw) : Bool := l.all rowOk && decide (l.length ≤ 400)
def batchOk (l : List Rw) : Bool := asc l && rowsOk l
def fit (l : List Rw) : List Rw := if batchOk l then l else []
def batchOf (l : List Rw) : List Rw := if rowsOk l then fit (sum l) else []
def neg (r : Rw) : Rw := { r with f3 := wrap64 (-r.f3) }
def mv (f : List Tm) (r : Rw) : Rw := { r with f2 := moved f r.f2 }
def presentOf (l : List Rw) (t : Tm) : List It := (l.filter fun r => below r.f2 t).map itemOf
def present (l : List Rw) (t : Tm) : List It := items (presentOf l t)
def batchAt (l : List Rw) (t : Tm) : List It := if rowsOk l && tOk t then present l t else []
def many : List (List Rw) → Nat
 | [] => 0
 | l :: ls => l.length + many ls
def spineOk (ls : List (List Rw)) (f : List Tm) : Bool := ls.all batchOk && decide (ls.length ≤ 6) && decide (many ls ≤ 400) && frontOk f
end Go.Proofs.Ytkdendlgaaimbaa.X
namespace Go.Proofs.Ytkdendlgaaimbaa.X
open Go.RowKit
theorem take1 {α : Type} {l : List α} {k : Nat} {x : α} (hx : l[k]? = some x) : l.take (k + 1) = l.take k ++ [x] := by
 obtain ⟨hlt, rfl⟩ := List.getElem?_eq_some_iff.1 hx
 exact List.take_succ_eq_append_getElem hlt
theorem frontGo_snoc (p : Tm) : ∀ (l : List Tm) (y x : Tm), frontGo p (l ++ [y]) = true → frontGo p (l ++ [y, x]) = (tOk x && step2 y x)
 | [], y, x, h => by simp [frontGo] at h ⊢; simp [h]
 | t :: l, y, x, h => by
  simp only [List.cons_append, frontGo, Bool.and_eq_true] at h ⊢
  rw [frontGo_snoc t l y x h.2, h.1.1, h.1.2]; rfl
theorem frontOk_snoc : ∀ (l : List Tm) (y x : Tm), frontOk (l ++ [y]) = true → frontOk (l ++ [y, x]) = (tOk x && step2 y x)
 | [], y, x, h => by simp [frontOk, frontGo] at h ⊢; simp [h]
 | t :: l, y, x, h => by
  simp only [List.cons_append, frontOk, Bool.and_eq_true] at h ⊢
  rw [frontGo_snoc t l y x h.2, h.1]; rfl
theorem front_next {l : List Tm} {j : Nat} {x y : Tm} (h : frontOk (l.take (j + 1)) = true) (hy : l[j]? = some y) (hx : l[j + 1]? = some x) : frontOk (l.take (j + 1 + 1)) = (tOk x && step2 y x) := by
 rw [take1 hx, take1 hy, List.append_assoc]
 rw [take1 hy] at h
 exact frontOk_snoc _ y x h
theorem front_first {l : List Tm} {x : Tm} {k : Nat} (hx : l[k]? = some x) (hk : ¬ 0 < k) : frontOk (l.take (k + 1)) = tOk x := by
 obtain rfl : k = 0 := by omega
 rw [show (0 + 1 : Nat) = 0 + 1 from rfl, take1 hx]; simp [frontOk, frontGo]
theorem frontGo_take (p : Tm) : ∀ (l : List Tm) (k : Nat), frontGo p l = true → frontGo p (l.take k) = true
 | _, 0, _ => by simp [frontGo]
 | [], k + 1, _ => by simp [frontGo]
 | t :: l, k + 1, h => by
  simp only [List.take_succ_cons, frontGo, Bool.and_eq_true] at h ⊢
  exact ⟨h.1, frontGo_take t l k h.2⟩
theorem frontOk_take : ∀ (l : List Tm) (k : Nat), frontOk l = true → frontOk (l.take k) = true
 | _, 0, _ => by simp [frontOk]
 | [], k + 1, _ => by simp [frontOk]
 | t :: l, k + 1, h => by
  simp only [List.take_succ_cons, frontOk, Bool.and_eq_true] at h ⊢
  exact ⟨h.1, frontGo_take t l k h.2⟩
theorem front_false {l : List Tm} (k : Nat) (h : frontOk (l.take k) = false) : frontOk l = false := by
 cases e : frontOk l
 ·rfl
 ·rw [frontOk_take l k e] at h; cases h
theorem front_done {l : List Tm} {k : Nat} (h : frontOk (l.take k) = true) (hk : ¬ k < l.length) : frontOk l = true := by rwa [List.take_of_length_le (by omega)] at h
theorem ascGo_snoc (p : Rw) : ∀ (l : List Rw) (y x : Rw), ascGo p (l ++ [y]) = true → ascGo p (l ++ [y, x]) = (decide (x.f3 ≠ 0) && rowAhead y x)
 | [], y, x, h => by simp [ascGo] at h ⊢; simp [h]
 | t :: l, y, x, h => by
  simp only [List.cons_append, ascGo, Bool.and_eq_true] at h ⊢
  rw [ascGo_snoc t l y x h.2, h.1.1, h.1.2]; rfl
theorem asc_snoc : ∀ (l : List Rw) (y x : Rw), asc (l ++ [y]) = true → asc (l ++ [y, x]) = (decide (x.f3 ≠ 0) && rowAhead y x)
 | [], y, x, h => by simp [asc, ascGo] at h ⊢; simp [h]
 | t :: l, y, x, h => by
  simp only [List.cons_append, asc, Bool.and_eq_true] at h ⊢
  rw [ascGo_snoc t l y x h.2, h.1]; rfl
theorem asc_next {l : List Rw} {j : Nat} {x y : Rw} (h : asc (l.take (j + 1)) = true) (hy : l[j]? = some y) (hx : l[j + 1]? = some x) : asc (l.take (j + 1 + 1)) = (decide (x.f3 ≠ 0) && rowAhead y x) := by
 rw [take1 hx, take1 hy, List.append_assoc]
 rw [take1 hy] at h
 exact asc_snoc _ y x h
theorem asc_first {l : List Rw} {x : Rw} {k : Nat} (hx : l[k]? = some x) (hk : ¬ 0 < k) : asc (l.take (k + 1)) = decide (x.f3 ≠ 0) := by
 obtain rfl : k = 0 := by omega
 rw [take1 hx]; simp [asc, ascGo]
theorem ascGo_take (p : Rw) : ∀ (l : List Rw) (k : Nat), ascGo p l = true → ascGo p (l.take k) = true
 | _, 0, _ => by simp [ascGo]
 | [], k + 1, _ => by simp [ascGo]
 | t :: l, k + 1, h => by
  simp only [List.take_succ_cons, ascGo, Bool.and_eq_true] at h ⊢
  exact ⟨h.1, ascGo_take t l k h.2⟩
theorem asc_take : ∀ (l : List Rw) (k : Nat), asc l = true → asc (l.take k) = true
 | _, 0, _ => by simp [asc]
 | [], k + 1, _ => by simp [asc]
 | t :: l, k + 1, h => by
  simp only [List.take_succ_cons, asc, Bool.and_eq_true] at h ⊢
  exact ⟨h.1, ascGo_take t l k h.2⟩
theorem asc_false {l : List Rw} (k : Nat) (h : asc (l.take k) = false) : asc l = false := by
 cases e : asc l
 ·rfl
 ·rw [asc_take l k e] at h; cases h
theorem asc_done {l : List Rw} {k : Nat} (h : asc (l.take k) = true) (hk : ¬ k < l.length) : asc l = true := by rwa [List.take_of_length_le (by omega)] at h
def lexi : List Int → List Int → Int
 | x :: xs, y :: ys => if x < y then -1 else if x > y then 1 else lexi xs ys
 | _, _ => 0
theorem comp_lexi (a b : Rw) : comp a b = lexi [a.f0, a.f1, a.f2.f0, a.f2.f1] [b.f0, b.f1, b.f2.f0, b.f2.f1] := rfl
theorem comp_ge (x y : Rw) : (0 ≤ comp x y) ↔ rowAhead x y = false := by
 unfold comp rowAhead ahead
 by_cases h1 : x.f0 = y.f0 <;> by_cases h2 : x.f1 = y.f1 <;> simp [h1, h2] <;> split <;> (try split) <;> (try split) <;> (try split) <;> (try split) <;> (try split) <;> simp_all <;> omega
theorem batchOk_len {l : List Rw} (h : batchOk l = true) : l.length ≤ 400 := by simp [batchOk, rowsOk] at h; omega
theorem many_take {ls : List (List Rw)} {k : Nat} {x : List Rw} (hx : ls[k]? = some x) : many (ls.take (k + 1)) = many (ls.take k) + x.length := by
 rw [take1 hx]
 have : ∀ (a : List (List Rw)), many (a ++ [x]) = many a + x.length := by
  intro a
  induction a with
  | nil => simp [many]
  | cons y a ih => simp only [List.cons_append, many, ih]; omega
 exact this _
theorem many_done {ls : List (List Rw)} {k : Nat} (hk : ¬ k < ls.length) : many (ls.take k) = many ls := by rw [List.take_of_length_le (by omega)]
end Go.Proofs.Ytkdendlgaaimbaa.X
namespace Go.Proofs.Ytkdendlgaaimbaa.X
open Go.RowKit
end Go.Proofs.Ytkdendlgaaimbaa.X
namespace Go.Proofs.Ytkdendlgaaimbaa.X
open Go.RowKit
instance (x r : Rw) : Decidable (sameR x r) := by unfold sameR; infer_instance
def fitRw (x : Rw) : Bool := (Lit.int .i64 x.f0).wf && (Lit.int .i64 x.f1).wf && (Lit.int .i64 x.f2.f0).wf && (Lit.int .i64 x.f2.f1).wf && (Lit.int .i64 x.f3).wf
theorem fitR_all {l : List Rw} (h : l.all fitRw = true) : ∀ x ∈ l, wfI x.f0 ∧ wfI x.f1 ∧ wfI x.f2.f0 ∧ wfI x.f2.f1 ∧ wfI x.f3 := fun x hx => by
 have := List.all_eq_true.1 h x hx
 simp only [fitRw, Bool.and_eq_true] at this
 exact ⟨this.1.1.1.1, this.1.1.1.2, this.1.1.2, this.1.2, this.2⟩
end Go.Proofs.Ytkdendlgaaimbaa.X
namespace Go.Proofs.Ytkdendlgaaimbaa.X
open Go.RowKit
set_option linter.unusedVariables false
end Go.Proofs.Ytkdendlgaaimbaa.X
namespace Go.Proofs.Ytkdendlgaaimbaa.X
open Go.RowKit
set_option linter.unusedVariables false
set_option linter.unusedSimpArgs false
def sg {α : Type} (f : α → Int) : List α → Int
 | [] => 0
 | x :: l => f x + sg f l
section
variable {α β : Type}
theorem sg_append (f : α → Int) : ∀ l m : List α, sg f (l ++ m) = sg f l + sg f m
 | [], m => by simp [sg]
 | x :: l, m => by simp only [List.cons_append, sg]; rw [sg_append f l m]; omega
theorem sg_map (f : β → Int) (g : α → β) : ∀ l : List α, sg f (l.map g) = sg (fun x => f (g x)) l
 | [] => rfl
 | x :: l => by simp only [List.map_cons, sg]; rw [sg_map f g l]
theorem sg_filter (f : α → Int) (p : α → Bool) : ∀ l : List α, sg f (l.filter p) = sg (fun x => if p x = true then f x else 0) l
 | [] => rfl
 | x :: l => by
  by_cases h : p x = true
  ·rw [List.filter_cons_of_pos h, sg, sg, if_pos h, sg_filter f p l]
  ·rw [List.filter_cons_of_neg h, sg, if_neg h, sg_filter f p l]; omega
theorem sg_congr {f g : α → Int} : ∀ {l : List α}, (∀ x ∈ l, f x = g x) → sg f l = sg g l
 | [], _ => rfl
 | x :: l, h => by rw [sg, sg, h x List.mem_cons_self, sg_congr (fun y hy => h y (List.mem_cons_of_mem _ hy))]
theorem sg_zero : ∀ {f : α → Int} {l : List α}, (∀ x ∈ l, f x = 0) → sg f l = 0
 | _, [], _ => rfl
 | f, x :: l, h => by rw [sg, h x List.mem_cons_self, sg_zero (fun y hy => h y (List.mem_cons_of_mem _ hy))]; rfl
theorem sg_le {f g : α → Int} : ∀ {l : List α}, (∀ x ∈ l, f x ≤ g x) → sg f l ≤ sg g l
 | [], _ => Int.le_refl _
 | x :: l, h => by
  have h1 := h x List.mem_cons_self
  have h2 := sg_le (l := l) (fun y hy => h y (List.mem_cons_of_mem _ hy))
  simp only [sg]; omega
theorem sg_nonneg {f : α → Int} {l : List α} (h : ∀ x ∈ l, 0 ≤ f x) : 0 ≤ sg f l := by
 have := sg_le (f := fun _ => 0) (g := f) (l := l) h
 rw [sg_zero (fun _ _ => rfl)] at this; exact this
theorem sg_const (c : Int) : ∀ l : List α, sg (fun _ => c) l = c * l.length
 | [] => by simp [sg]
 | x :: l => by rw [sg, sg_const c l, List.length_cons]; rw [show ((l.length + 1 : Nat) : Int) = (l.length : Int) + 1 by omega, Int.mul_add]; omega
theorem sg_le_len {f : α → Int} {c : Int} {l : List α} (h : ∀ x ∈ l, f x ≤ c) : sg f l ≤ c * l.length := by rw [← sg_const]; exact sg_le h
end
theorem abs_tri (a b : Int) : ((a + b).natAbs : Int) ≤ a.natAbs + b.natAbs := by omega
theorem wrap_abs {a : Int} (h : (a.natAbs : Int) < 9223372036854775808) : wrap64 a = a := by unfold wrap64; omega
def mass (l : List Rw) : Int := sg (fun r => (r.f3.natAbs : Int)) l
theorem mass_nonneg (l : List Rw) : 0 ≤ mass l := sg_nonneg fun _ _ => Int.natCast_nonneg _
theorem mass_append (l m : List Rw) : mass (l ++ m) = mass l + mass m := sg_append _ _ _
theorem mass_le {l : List Rw} {c : Int} (h : ∀ r ∈ l, (r.f3.natAbs : Int) ≤ c) : mass l ≤ c * l.length := sg_le_len h
theorem sameR_eq {x r : Rw} (h : sameR x r) : x.f0 = r.f0 ∧ x.f1 = r.f1 ∧ x.f2 = r.f2 := ⟨h.1, h.2.1, Tm.ext' h.2.2.1 h.2.2.2⟩
theorem put_sh (φ : Wt) (r : Rw) (s : List Rw) : (r.f3.natAbs : Int) + mass s < 9223372036854775808 → sg (sh φ) (put r s) = sh φ r + sg (sh φ) s ∧ mass (put r s) ≤ (r.f3.natAbs : Int) + mass s := by
 induction s with
 | nil => intro _; exact ⟨by simp [put, sg], by simp [put, mass, sg]⟩
 | cons x s ih =>
  intro h
  have hm : mass (x :: s) = (x.f3.natAbs : Int) + mass s := rfl
  rw [hm] at h ⊢
  have h0 := mass_nonneg s
  rw [put]
  by_cases h1 : 0 < comp x r
  ·rw [if_pos h1]; exact ⟨rfl, Int.le_refl _⟩
  ·rw [if_neg h1]
   by_cases h2 : comp x r = 0
   ·rw [if_pos h2]
    obtain ⟨e0, e1, e2⟩ := sameR_eq ((compR_zero x r).1 h2)
    have hw : wrap64 (r.f3 + x.f3) = r.f3 + x.f3 := wrap_abs (by omega)
    have ht := abs_tri r.f3 x.f3
    rw [hw]
    refine ⟨?_, ?_⟩
    ·simp only [sg, sh, e0, e1, e2, Int.add_mul]; omega
    ·show ((r.f3 + x.f3).natAbs : Int) + mass s ≤ _
     omega
   ·rw [if_neg h2]
    obtain ⟨i1, i2⟩ := ih (by omega)
    refine ⟨?_, ?_⟩
    ·simp only [sg]; rw [i1]; omega
    ·show (x.f3.natAbs : Int) + mass (put r s) ≤ _
     omega
theorem putAll_sh (φ : Wt) : ∀ (l s : List Rw), mass s + mass l < 9223372036854775808 → sg (sh φ) (putAll s l) = sg (sh φ) s + sg (sh φ) l ∧ mass (putAll s l) ≤ mass s + mass l
 | [], s, _ => ⟨by simp [putAll, sg], by simp [putAll, mass, sg]⟩
 | r :: l, s, h => by
  have hm : mass (r :: l) = (r.f3.natAbs : Int) + mass l := rfl
  rw [hm] at h ⊢
  have h0 := mass_nonneg l
  obtain ⟨i1, i2⟩ := put_sh φ r s (by omega)
  obtain ⟨j1, j2⟩ := putAll_sh φ l (put r s) (by omega)
  rw [putAll, j1, i1]
  exact ⟨by simp only [sg]; omega, by omega⟩
theorem nonZero_sh (φ : Wt) (l : List Rw) : sg (sh φ) (nonZero l) = sg (sh φ) l ∧ mass (nonZero l) = mass l := by
 unfold nonZero mass
 rw [sg_filter, sg_filter]
 exact ⟨sg_congr fun x _ => by by_cases h : x.f3 = 0 <;> simp [h, sh], sg_congr fun x _ => by by_cases h : x.f3 = 0 <;> simp [h]⟩
theorem sum_mass {l : List Rw} (h : mass l < 9223372036854775808) : mass (sum l) ≤ mass l := by
 unfold sum
 rw [(nonZero_sh (fun _ _ _ => 0) _).2]
 have := (putAll_sh (fun _ _ _ => 0) l [] (by simp only [mass, sg] at h ⊢; omega)).2
 simp only [mass, sg] at this ⊢; omega
theorem sum_from {l : List Rw} : ∀ r ∈ sum l, ∃ x ∈ l, sameR x r := by
 have go : ∀ (l s : List Rw), ∀ r ∈ putAll s l, (∃ x ∈ s, sameR x r) ∨ ∃ x ∈ l, sameR x r := by
  intro l
  induction l with
  | nil => intro s r hr; exact .inl ⟨r, hr, sameR_refl r⟩
  | cons y l ih =>
   intro s r hr
   rcases ih _ r hr with ⟨x, hx, e⟩ | ⟨x, hx, e⟩
   ·have hp : ∀ (s : List Rw), ∀ x ∈ put y s, x ∈ s ∨ sameR x y := by
     intro s
     induction s with
     | nil => intro x hx; rw [put, List.mem_singleton] at hx; subst hx; exact .inr (sameR_refl _)
     | cons z s ihs =>
      intro x hx
      rw [put] at hx
      split at hx
      ·rcases List.mem_cons.1 hx with rfl | hx
       ·exact .inr (sameR_refl _)
       ·exact .inl hx
      ·split at hx
       ·rcases List.mem_cons.1 hx with rfl | hx
        ·exact .inr ⟨rfl, rfl, rfl, rfl⟩
        ·exact .inl (List.mem_cons_of_mem _ hx)
       ·rcases List.mem_cons.1 hx with rfl | hx
        ·exact .inl List.mem_cons_self
        ·rcases ihs x hx with h | h
         ·exact .inl (List.mem_cons_of_mem _ h)
         ·exact .inr h
    rcases hp s x hx with h | h
    ·exact .inl ⟨x, h, e⟩
    ·exact .inr ⟨y, List.mem_cons_self, sameR_trans (sameR_symm h) e⟩
   ·exact .inr ⟨x, List.mem_cons_of_mem _ hx, e⟩
 intro r hr
 rcases go l [] r (List.mem_filter.1 hr).1 with ⟨x, hx, _⟩ | h
 ·cases hx
 ·exact h
theorem put_len (r : Rw) : ∀ s : List Rw, (put r s).length ≤ s.length + 1
 | [] => by simp [put]
 | x :: s => by
  rw [put]; split
  ·simp
  ·split
   ·simp
   ·have := put_len r s; simp; omega
theorem sum_len (l : List Rw) : (sum l).length ≤ l.length := by
 have go : ∀ (l s : List Rw), (putAll s l).length ≤ s.length + l.length := by
  intro l
  induction l with
  | nil => intro s; simp [putAll]
  | cons y l ih => intro s; have h1 := ih (put y s); have h2 := put_len y s; rw [putAll, List.length_cons]; omega
 have h1 := go l []
 have h2 := List.length_filter_le (fun r : Rw => decide (r.f3 ≠ 0)) (putAll [] l)
 unfold sum nonZero; simp at h1; omega
end Go.Proofs.Ytkdendlgaaimbaa.X
namespace Go.Proofs.Ytkdendlgaaimbaa.X
open Go.RowKit
set_option linter.unusedVariables false
set_option linter.unusedSimpArgs false
end Go.Proofs.Ytkdendlgaaimbaa.X
