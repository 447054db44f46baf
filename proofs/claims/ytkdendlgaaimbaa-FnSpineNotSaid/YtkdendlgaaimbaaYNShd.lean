/- Conditions: none. -/
import Derived.Test.YtkdendlgaaimbaaYNPlH
import Derived.Test.YtkdendlgaaimbaaYNSpPx0
import Derived.Test.YtkdendlgaaimbaaYNSpPx1
import Derived.Test.YtkdendlgaaimbaaYNSpPx2
import Derived.Test.YtkdendlgaaimbaaYNSpPx3
import Derived.Test.YtkdendlgaaimbaaYNSpPx4
import Derived.Test.YtkdendlgaaimbaaYNSpPx5
import Derived.Test.YtkdendlgaaimbaaYNSpPx6
import Derived.Test.YtkdendlgaaimbaaYNSpPx7
import Derived.Test.YtkdendlgaaimbaaYCBs
import Derived.Test.YtkdendlgaaimbaaYNBs
namespace Go.Proofs.Ytkdendlgaaimbaa.X
open Go.RowKit
set_option linter.unusedVariables false
set_option linter.unusedSimpArgs false
def flatL (ls : List (List Rw)) : List Rw := ls.flatten
theorem flatL_len : ∀ ls : List (List Rw), (flatL ls).length = many ls
 | [] => rfl
 | l :: ls => by show (l ++ flatL ls).length = _; rw [List.length_append, flatL_len ls, many]
theorem many_app : ∀ a b : List (List Rw), many (a ++ b) = many a + many b
 | [], b => by simp [many]
 | x :: a, b => by rw [List.cons_append, many, many, many_app a b]; omega
theorem flatL_app (a b : List (List Rw)) : flatL (a ++ b) = flatL a ++ flatL b := by unfold flatL; rw [List.flatten_append]
structure SpOk (ls : List (List Rw)) (f : List Tm) : Prop where
 lay : ∀ l ∈ ls, batchOk l = true
 few : ls.length ≤ 6
 rows : many ls ≤ 400
 front : frontOk f = true
theorem spineOk_iff {ls : List (List Rw)} {f : List Tm} : spineOk ls f = true ↔ SpOk ls f := by
 unfold spineOk
 simp only [Bool.and_eq_true, decide_eq_true_eq, List.all_eq_true]
 exact ⟨fun h => ⟨h.1.1.1, h.1.1.2, h.1.2, h.2⟩, fun h => ⟨⟨⟨h.lay, h.few⟩, h.rows⟩, h.front⟩⟩
theorem SpOk.okrows {ls : List (List Rw)} {f : List Tm} (h : SpOk ls f) : ∀ r ∈ flatL ls, rowOk r = true := fun r hr => by
 obtain ⟨l, hl, hr⟩ := List.mem_flatten.1 hr
 exact (rowsOk_all (batchOk_rows (h.lay l hl))).2 r hr
theorem SpOk.flat {ls : List (List Rw)} {f : List Tm} (h : SpOk ls f) : rowsOk (flatL ls) = true := by
 unfold rowsOk
 rw [decide_eq_true (show (flatL ls).length ≤ 400 by rw [flatL_len]; exact h.rows), Bool.and_true, List.all_eq_true]
 exact h.okrows
def askOk (f : List Tm) (t : Tm) : Bool := f.isEmpty || beyond f t
def spMay (ls : List (List Rw)) (f : List Tm) (t : Tm) : Bool := spineOk ls f && tOk t && askOk f t
def spAt (ls : List (List Rw)) (f : List Tm) (t : Tm) : List It := if spMay ls f t then present (flatL ls) t else []
def oneL (f : List Tm) (a b : List Rw) : List Rw := sum ((sum (a ++ b)).map (mv f))
def lay (ls : List (List Rw)) (k : Nat) : List Rw := ls.getD k []
def joinAt (ls : List (List Rw)) (f : List Tm) (k : Nat) : List (List Rw) := ls.take k ++ oneL f (lay ls k) (lay ls (k + 1)) :: ls.drop (k + 2)
def joinB (ls : List (List Rw)) (f : List Tm) (k : Int) : Bool := spineOk ls f && (decide (0 ≤ k) && decide (k < (ls.length : Int) - 1)) && batchOk (oneL f (lay ls k.toNat) (lay ls (k.toNat + 1)))
def joinL (ls : List (List Rw)) (f : List Tm) (k : Int) : List (List Rw) := if joinB ls f k then joinAt ls f k.toNat else []
def joinF (ls : List (List Rw)) (f : List Tm) (k : Int) : List Tm := if joinB ls f k then f else []
theorem oneL_len (f : List Tm) (a b : List Rw) : (oneL f a b).length ≤ a.length + b.length := by
 unfold oneL
 have h1 := sum_len ((sum (a ++ b)).map (mv f))
 have h2 := sum_len (a ++ b)
 rw [List.length_map] at h1
 rw [List.length_append] at h2
 omega
theorem lay_at {ls : List (List Rw)} {k : Nat} (h : k < ls.length) : lay ls k = ls[k] := by unfold lay; rw [List.getD_eq_getElem?_getD, List.getElem?_eq_getElem h]; rfl
theorem lay_mem {ls : List (List Rw)} {k : Nat} (h : k < ls.length) : lay ls k ∈ ls := by rw [lay_at h]; exact List.getElem_mem h
theorem cut_at {ls : List (List Rw)} {k : Nat} (h : k + 1 < ls.length) : ls = ls.take k ++ (lay ls k :: lay ls (k + 1) :: ls.drop (k + 2)) := by
 rw [lay_at h, lay_at (show k < ls.length by omega), ← List.drop_eq_getElem_cons h, ← List.drop_eq_getElem_cons (show k < ls.length by omega), List.take_append_drop]
theorem joinAt_len {ls : List (List Rw)} {f : List Tm} {k : Nat} (h : k + 1 < ls.length) : (joinAt ls f k).length = ls.length - 1 := by
 unfold joinAt; rw [List.length_append, List.length_take, List.length_cons, List.length_drop]; omega
theorem joinAt_many {ls : List (List Rw)} {f : List Tm} {k : Nat} (h : k + 1 < ls.length) : many (joinAt ls f k) ≤ many ls := by
 have e := cut_at h
 have h1 : many ls = many (ls.take k ++ (lay ls k :: lay ls (k + 1) :: ls.drop (k + 2))) := by rw [← e]
 rw [h1]
 unfold joinAt
 rw [many_app, many_app, many, many, many]
 have := oneL_len f (lay ls k) (lay ls (k + 1))
 omega
theorem joinAt_ok {ls : List (List Rw)} {f : List Tm} {k : Nat} (h : SpOk ls f) (hk : k + 1 < ls.length) (ho : batchOk (oneL f (lay ls k) (lay ls (k + 1))) = true) : SpOk (joinAt ls f k) f := by
 refine ⟨fun l hl => ?_, by rw [joinAt_len hk]; have := h.few; omega, Nat.le_trans (joinAt_many hk) h.rows, h.front⟩
 unfold joinAt at hl
 rcases List.mem_append.1 hl with hl | hl
 ·exact h.lay l (List.mem_of_mem_take hl)
 ·rcases List.mem_cons.1 hl with rfl | hl
  ·exact ho
  ·exact h.lay l (List.mem_of_mem_drop hl)
theorem joinB_iff {ls : List (List Rw)} {f : List Tm} {k : Int} : joinB ls f k = true ↔ SpOk ls f ∧ (0 ≤ k ∧ k.toNat + 1 < ls.length) ∧ batchOk (oneL f (lay ls k.toNat) (lay ls (k.toNat + 1))) = true := by
 unfold joinB
 simp only [Bool.and_eq_true, decide_eq_true_eq, spineOk_iff]
 constructor
 ·rintro ⟨⟨h1, h2, h3⟩, h4⟩; exact ⟨h1, ⟨h2, by omega⟩, h4⟩
 ·rintro ⟨h1, ⟨h2, h3⟩, h4⟩; exact ⟨⟨h1, h2, by omega⟩, h4⟩
theorem flat_cons (l : List Rw) (ls : List (List Rw)) : flatL (l :: ls) = l ++ flatL ls := rfl
def wl (ls : List (List Rw)) (k : Nat) : Nat := (lay ls k).length + (lay ls (k + 1)).length
def leastTo (ls : List (List Rw)) : Nat → Nat
 | 0 => 0
 | 1 => 0
 | k + 2 => if wl ls (k + 1) < wl ls (leastTo ls (k + 1)) then k + 1 else leastTo ls (k + 1)
theorem leastTo_lt (ls : List (List Rw)) : ∀ n, leastTo ls n < n ∨ leastTo ls n = 0
 | 0 => .inr rfl
 | 1 => .inr rfl
 | k + 2 => by
  have ih := leastTo_lt ls (k + 1)
  rw [leastTo]
  split
  ·exact .inl (by omega)
  ·omega
theorem leastTo_succ (ls : List (List Rw)) {k : Nat} (hk : 0 < k) : leastTo ls (k + 1) = if wl ls k < wl ls (leastTo ls k) then k else leastTo ls k := by
 obtain ⟨j, rfl⟩ : ∃ j, k = j + 1 := ⟨k - 1, by omega⟩
 rfl
def leastL6 (ls : List (List Rw)) : Nat := leastTo ls (ls.length - 1)
def inBase (ls : List (List Rw)) (f : List Tm) : List (List Rw) := if ls.length = 6 then joinAt ls f (leastL6 ls) else ls
def inB (ls : List (List Rw)) (f : List Tm) (b : List Rw) : Bool := spineOk ls f && batchOk b && b.all (fun r => askOk f r.f2) && (decide (ls.length ≠ 6) || joinB ls f (leastL6 ls)) && spineOk (inBase ls f ++ [b]) f
def inL (ls : List (List Rw)) (f : List Tm) (b : List Rw) : List (List Rw) := if inB ls f b then inBase ls f ++ [b] else []
def inF (ls : List (List Rw)) (f : List Tm) (b : List Rw) : List Tm := if inB ls f b then f else []
theorem inB_iff {ls : List (List Rw)} {f : List Tm} {b : List Rw} : inB ls f b = true ↔ SpOk ls f ∧ batchOk b = true ∧ (∀ r ∈ b, askOk f r.f2 = true) ∧ (ls.length = 6 → joinB ls f (leastL6 ls) = true) ∧ SpOk (inBase ls f ++ [b]) f := by
 unfold inB
 simp only [Bool.and_eq_true, Bool.or_eq_true, decide_eq_true_eq, List.all_eq_true, spineOk_iff]
 constructor
 ·rintro ⟨⟨⟨⟨h1, h2⟩, h3⟩, h4⟩, h5⟩; exact ⟨h1, h2, h3, fun e => h4.elim (fun h => absurd e h) id, h5⟩
 ·rintro ⟨h1, h2, h3, h4, h5⟩; exact ⟨⟨⟨⟨h1, h2⟩, h3⟩, (Decidable.em (ls.length = 6)).elim (fun e => .inr (h4 e)) .inl⟩, h5⟩
theorem mass_one {f : List Tm} {a b : List Rw} (hm : mass a + mass b ≤ 99999999) : mass (oneL f a b) ≤ mass a + mass b := by
 unfold oneL
 have h1 := sum_mass (l := a ++ b) (by rw [mass_append]; omega)
 rw [mass_append] at h1
 have h2 := sum_mass (l := (sum (a ++ b)).map (mv f)) (by rw [mass_mv]; omega)
 rw [mass_mv] at h2
 omega
theorem mass_joinAt {ls : List (List Rw)} {f : List Tm} {k : Nat} (hk : k + 1 < ls.length) (hm : mass (flatL ls) ≤ 99999999) : mass (flatL (joinAt ls f k)) ≤ mass (flatL ls) := by
 have e : mass (flatL ls) = mass (flatL (ls.take k ++ (lay ls k :: lay ls (k + 1) :: ls.drop (k + 2)))) := by rw [← cut_at hk]
 rw [flatL_app, flat_cons, flat_cons, mass_append, mass_append, mass_append] at e
 rw [e] at hm ⊢
 unfold joinAt
 rw [flatL_app, flat_cons, mass_append, mass_append]
 have h1 := mass_nonneg (flatL (ls.take k))
 have h2 := mass_nonneg (flatL (ls.drop (k + 2)))
 have := mass_one (f := f) (a := lay ls k) (b := lay ls (k + 1)) (by omega)
 omega
end Go.Proofs.Ytkdendlgaaimbaa.X
namespace Go.Proofs.Ytkdendlgaaimbaa.X
open Go.RowKit Go.Proofs.Ytkdendlgaaimbaa.PSpP Go.Proofs.YtkdendlgaaimbaaW.PrintWords
set_option linter.unusedVariables false
set_option linter.unusedSimpArgs false
theorem covers_eq {f : List Tm} {t : Tm} (hf : frontOk f = true) (ht : tOk t = true) : covers f t = beyond f t := by
 unfold covers beyond
 rw [hf, Bool.true_and]
 have h := frontOk_all hf
 clear hf
 induction f with
 | nil => rfl
 | cons a f ih =>
  rw [List.any_cons, List.any_cons, ih (fun s hs => h s (by simp [hs]))]
  unfold tLess
  rw [h a (by simp), ht]
  simp
structure SpB (ls : List (List Rw)) (f : List Tm) : Prop where
 l : ls.length ≤ 1048576
 ls : ∀ y ∈ ls, y.length ≤ 1048576
 f : f.length ≤ 1048576
def SpS (w : World) (a b : Value) (ls : List (List Rw)) (f : List Tm) : Prop := Sl (Kd.slice 102 kRw) w a ls ∧ Sl kTm w b f
theorem SpS.below {w w' : World} {a b : Value} {ls : List (List Rw)} {f : List Tm} (h : SpS w a b ls f) (hb : Below w.heap.size w w') : SpS w' a b ls f := ⟨h.1.below hb, h.2.below hb⟩
def sinceB (ls : List (List Rw)) (f l : List Tm) : Bool := spineOk ls f && frontOk l && !l.isEmpty && l.all (askOk f)
def sinceL (ls : List (List Rw)) (f l : List Tm) : List (List Rw) := if sinceB ls f l then ls else []
def sinceF (ls : List (List Rw)) (f l : List Tm) : List Tm := if sinceB ls f l then l else []
theorem flat_take {ls : List (List Rw)} {i : Nat} (h : i < ls.length) : flatL (ls.take (i + 1)) = flatL (ls.take i) ++ ls.getD i [] := by
 have hs := getD_some h ([] : List Rw)
 rw [List.take_add_one, hs, flatL_app]
 show _ ++ (ls.getD i [] ++ []) = _
 rw [List.append_nil]
theorem many_upto (ls : List (List Rw)) (i : Nat) : many (ls.take i) ≤ many ls := by
 have e : many ls = many (ls.take i ++ ls.drop i) := by rw [List.take_append_drop]
 rw [e, many_app]; omega
theorem allRows_l (ls : List (List Rw)) (hl : ls.length ≤ 1048576) (hm : many ls ≤ 400) : ∀ n i : Nat, i + n = ls.length → Ev (fun k => impl_allRows.l0 k (flatL (ls.take i)) ls ls.length i) (flatL ls) := by
 intro n
 induction n with
 | zero =>
  intro i hi
  refine Ev.succ (Ev.all fun k => ?_)
  simp only [impl_allRows.l0]
  rw [if_neg (by omega), List.take_of_length_le (by omega)]
 | succ n ih =>
  intro i hi
  have hi' : i < ls.length := by omega
  have e := flat_take hi'
  have m1 := many_upto ls (i + 1)
  rw [← flatL_len, e, List.length_append] at m1
  refine Ev.succ (Ev.of (ih (i + 1) (by omega)) fun k => ?_)
  simp only [impl_allRows.l0]
  rw [if_pos (by omega), if_pos (by omega), if_pos (by omega), wnext (m := ls.length) (by omega) (by omega), e]
  show (if (flatL (ls.take i)).length + (ls.getD i []).length < 3518437208883 then _ else none) = _
  rw [if_pos (by omega)]
  rfl
theorem specAt_l (ls : List (List Rw)) (f : List Tm) (t : Tm) (hl : ls.length ≤ 1048576) (hm : many ls ≤ 400) : ∀ n i : Nat, i + n = ls.length → Ev (fun k => spec_SpineAt.l0 k (flatL (ls.take i)) i ls f t.f0 t.f1) (batchAt (flatL ls) t, true) := by
 intro n
 induction n with
 | zero =>
  intro i hi
  refine Ev.succ (Ev.all fun k => ?_)
  simp only [spec_SpineAt.l0, spec_BatchAt.f, Option.bind_some]
  rw [if_neg (by omega), List.take_of_length_le (by omega)]
 | succ n ih =>
  intro i hi
  have hi' : i < ls.length := by omega
  have e := flat_take hi'
  have m1 := many_upto ls (i + 1)
  rw [← flatL_len, e, List.length_append] at m1
  refine Ev.succ (Ev.of (ih (i + 1) (by omega)) fun k => ?_)
  simp only [spec_SpineAt.l0]
  rw [if_pos (by omega), if_pos (by omega), wnext (m := ls.length) (by omega) (by omega), e]
  show (if (flatL (ls.take i)).length + (ls.getD i []).length < 3518437208883 then _ else none) = _
  rw [if_pos (by omega)]
  rfl
theorem fitRw_of {r : Rw} (h : rowOk r = true) : fitRw r = true := by
 obtain ⟨h1, h2⟩ := rowsOk_fit (l := [r]) (fun x hx => by rw [List.mem_singleton.1 hx]; exact h) r (List.mem_singleton.2 rfl)
 unfold wfK wfI at h1
 unfold wfI at h2
 simp only [fitRw, Bool.and_eq_true]
 exact ⟨⟨⟨⟨h1.1, h1.2.1⟩, h1.2.2.1⟩, h1.2.2.2⟩, h2⟩
theorem fits_flat {ls : List (List Rw)} {f : List Tm} (h : SpOk ls f) : (flatL ls).all fitRw = true := List.all_eq_true.2 fun r hr => fitRw_of (h.okrows r hr)
theorem implAt_e (ls : List (List Rw)) (f : List Tm) (t : Tm) (hl : ls.length ≤ 1048576) : Ev (fun k => impl_SpineAt.f k ls f t.f0 t.f1) (spAt ls f t, spMay ls f t) := by
 have hq : ls.length ≤ 281474976710656 := by omega
 simp only [impl_SpineAt.f, impl_SpineOk.f, impl_TimeOk.f, impl_beyond.f, if_pos hq, Option.bind_some]
 unfold spAt spMay
 cases h1 : spineOk ls f with
 | false => simp only [Bool.false_eq_true, if_false, Bool.false_and]; exact Ev.succ (Ev.all fun k => by simp only [impl_SpineAt.j0, if_true]; try rfl)
 | true =>
  simp only [if_true, Bool.true_and]
  have hs := spineOk_iff.1 h1
  have hn : (flatL ls).length ≤ 1000000 := by rw [flatL_len]; have := hs.rows; omega
  have HA := allRows_l ls hl hs.rows ls.length 0 (by omega)
  have H : Ev (fun k => impl_SpineAt.j0 k false ls f t.f0 t.f1) (present (flatL ls) t, true) := by
   refine Ev.succ (Ev.of (f := fun k => (impl_allRows.f k ls f).bind fun x => (impl_present.f k x t.f0 t.f1).bind fun y => (some (y, true) : Option (List It × Bool))) ?_ fun k => ?_)
   ·refine Ev.bind (a := flatL ls) (by simpa [impl_allRows.f, flatL] using HA) ?_
    refine Ev.bind (a := present (flatL ls) t) (Ev.all fun k => ?_) (Ev.pure _)
    simp only [impl_present.f]
    rw [if_pos ⟨fits_flat hs, hn⟩]
   ·simp only [impl_SpineAt.j0, Bool.false_eq_true, if_false]
  cases h2 : tOk t with
  | false => simp only [Bool.false_eq_true, if_false, Bool.false_and]; exact Ev.succ (Ev.all fun k => by simp only [impl_SpineAt.j0, if_true]; try rfl)
  | true =>
   simp only [if_true, Bool.true_and]
   cases f with
   | nil =>
    have e : askOk [] t = true := rfl
    simp only [e, if_true]
    exact Ev.of H fun k => if_neg (by simp)
   | cons a f =>
    simp only [if_pos (show ((a :: f).length : Int) > 0 by rw [List.length_cons]; omega)]
    show Ev (fun k => impl_SpineAt.j0 k (!beyond (a :: f) t) ls (a :: f) t.f0 t.f1) _
    have e : askOk (a :: f) t = beyond (a :: f) t := rfl
    rw [e]
    cases h3 : beyond (a :: f) t with
    | false => simp only [Bool.not_false, Bool.false_eq_true, if_false]; exact Ev.succ (Ev.all fun k => by simp only [impl_SpineAt.j0, if_true]; try rfl)
    | true => simp only [Bool.not_true, if_true]; exact H
theorem specAt_e (ls : List (List Rw)) (f : List Tm) (t : Tm) (hl : ls.length ≤ 1048576) : Ev (fun k => spec_SpineAt.f k ls f t.f0 t.f1) (spAt ls f t, spMay ls f t) := by
 simp only [spec_SpineAt.f, spec_SpineOk.f, spec_TimeOk.f, spec_FrontCovers.f, Option.bind_some]
 unfold spAt spMay
 cases h1 : spineOk ls f with
 | false => simp only [Bool.false_eq_true, if_false, Bool.false_and]; exact Ev.succ (Ev.all fun k => by simp only [spec_SpineAt.j0, if_true]; try rfl)
 | true =>
  simp only [if_true, Bool.true_and]
  have hs := spineOk_iff.1 h1
  have HA := specAt_l ls f t hl hs.rows ls.length 0 (by omega)
  cases h2 : tOk t with
  | false => simp only [Bool.false_eq_true, if_false, Bool.false_and]; exact Ev.succ (Ev.all fun k => by simp only [spec_SpineAt.j0, if_true]; try rfl)
  | true =>
   simp only [if_true, Bool.true_and]
   have e0 : batchAt (flatL ls) t = present (flatL ls) t := batchAt_ok hs.flat h2
   rw [e0] at HA
   have H : Ev (fun k => spec_SpineAt.j0 k false ls f t.f0 t.f1) (present (flatL ls) t, true) := by
    refine Ev.succ (Ev.of HA fun k => ?_)
    simp only [spec_SpineAt.j0, Bool.false_eq_true, if_false]
    rfl
   cases f with
   | nil =>
    have e : askOk [] t = true := rfl
    simp only [e, if_true]
    exact Ev.of H fun k => if_neg (by simp)
   | cons a f =>
    simp only [if_pos (show ((a :: f).length : Int) > 0 by rw [List.length_cons]; omega)]
    show Ev (fun k => spec_SpineAt.j0 k (!covers (a :: f) t) ls (a :: f) t.f0 t.f1) _
    have e : askOk (a :: f) t = covers (a :: f) t := (covers_eq hs.front h2).symm
    rw [e]
    cases h3 : covers (a :: f) t with
    | false => simp only [Bool.not_false, Bool.false_eq_true, if_false]; exact Ev.succ (Ev.all fun k => by simp only [spec_SpineAt.j0, if_true]; try rfl)
    | true => simp only [Bool.not_true, if_true]; exact H
def AtP (w : World) (l : List It) (r : Bool) (e : Ending) (w' : World) : Prop := ∃ a : Value, e = .returned (.tuple #[a, .bool r]) ∧ kIt.R 118 w' w.heap.size okT a l ∧ Below w.heap.size w w'
theorem impl_SpineAt (u v : Value) (ls : List (List Rw)) (f : List Tm) (t : Tm) (w : World) (h : SpS w u v ls f) (hb : SpB ls f) : Calls Try.prog 26 #[.agg #[u, v], .agg #[.int .i64 t.f0, .int .i64 t.f1]] w (AtP w (spAt ls f t) (spMay ls f t)) := by
 obtain ⟨⟨A, c, rfl, hc, hr⟩, A2, c2, rfl, hc2, hr2⟩ := h
 obtain ⟨k, hk⟩ := (implAt_e ls f t hb.l).get
 exact impl_SpineAt.calls k A c ls A2 c2 f t.f0 t.f1 _ _ w hr hc hr2 hc2 hk
theorem spec_SpineAt (u v : Value) (ls : List (List Rw)) (f : List Tm) (t : Tm) (w : World) (h : SpS w u v ls f) (hb : SpB ls f) : Calls Try.prog 25 #[.agg #[u, v], .agg #[.int .i64 t.f0, .int .i64 t.f1]] w (AtP w (spAt ls f t) (spMay ls f t)) := by
 obtain ⟨⟨A, c, rfl, hc, hr⟩, A2, c2, rfl, hc2, hr2⟩ := h
 obtain ⟨k, hk⟩ := (specAt_e ls f t hb.l).get
 exact spec_SpineAt.calls k A c ls A2 c2 f t.f0 t.f1 _ _ w hr hc hr2 hc2 hk
end Go.Proofs.Ytkdendlgaaimbaa.X
namespace Go.Proofs.Ytkdendlgaaimbaa.X
open Go.RowKit Go.Proofs.YtkdendlgaaimbaaW.PrintWords
set_option linter.unusedVariables false
set_option linter.unusedSimpArgs false
def kSh : Kd (List Rw) where
 sz := 1
 E := [102]
 K := (Kd.slice 102 kRw).K
 M := fun w base ok xs cs => ∃ A c Q, cs = [.slice A xs.length c] ∧ xs.length ≤ c ∧ Kd.F kRw w Q A xs.length xs ∧ ∀ k, Q k → ok k ∧ base ≤ k ∧ k < w.heap.size ∧ ∃ cells, w.heap[k]? = some (.cells cells 102 (0, 0))
 K_len := (Kd.slice 102 kRw).K_len
 K_one := (Kd.slice 102 kRw).K_one
 K_below := (Kd.slice 102 kRw).K_below
 K_of_M := by
  rintro w base ok xs cs ⟨A, c, Q, rfl, hc, hF, _⟩
  exact ⟨A, c, rfl, hc, Kd.F_now hF⟩
 M_mono := by
  rintro w base ok ok' xs cs h ⟨A, c, Q, rfl, hc, hF, hQ⟩
  exact ⟨A, c, Q, rfl, hc, hF, fun k hk => ⟨h k (hQ k hk).1, (hQ k hk).2⟩⟩
 M_bound := by
  rintro w base ok xs cs ⟨A, c, Q, rfl, hc, hF, hQ⟩
  refine ⟨A, c, Q, rfl, hc, hF, fun k hk => ?_⟩
  obtain ⟨h1, h2, h3, cells, h4⟩ := hQ k hk
  exact ⟨⟨h1, h2, h3, _, List.mem_singleton.2 rfl, cells, h4⟩, h2, h3, cells, h4⟩
 M_move := by
  rintro w w1 base ok xs cs hm ⟨A, c, Q, rfl, hc, hF, hQ⟩
  refine ⟨A, c, Q, rfl, hc, Kd.F_step hF (fun k hk _ => hm k (hQ k hk).1), fun k hk => ?_⟩
  obtain ⟨h1, h2, h3, cells, h4⟩ := hQ k hk
  have h5 := (hm k h1).trans h4
  exact ⟨h1, h2, (Array.getElem?_eq_some_iff.1 h5).1, cells, h5⟩
 M_lower := by
  rintro w base base' ok xs cs hb ⟨A, c, Q, rfl, hc, hF, hQ⟩
  exact ⟨A, c, Q, rfl, hc, hF, fun k hk => by obtain ⟨h1, h2, h3⟩ := hQ k hk; exact ⟨h1, Nat.le_trans hb h2, h3⟩⟩
theorem sh_M {w : World} {base : Nat} {ok : Nat → Prop} {v : Value} {xs : List Rw} (h : kRw.R 102 w base ok v xs) : kSh.M w base ok xs [v] := by
 have hb := Kd.R_bound h
 obtain ⟨A, c, rfl, hc, _⟩ := Kd.R_reads h
 refine ⟨A, c, _, rfl, hc, fun W' hW => (Kd.R_reads' (Kd.R_step hb hW)).2.2, fun k hk => ?_⟩
 obtain ⟨h1, h2, h3, q, hq, cells, h4⟩ := hk
 have : q = 102 := by
  revert hq
  show q ∈ 102 :: [] → _
  intro hq
  exact List.mem_singleton.1 hq
 subst this
 exact ⟨h1, h2, h3, cells, h4⟩
def SpT (w' : World) (base : Nat) (ok : Nat → Prop) (a b : Value) (ls : List (List Rw)) (f : List Tm) : Prop := kSh.R 27 w' base ok a ls ∧ kTm.R 43 w' base ok b f
theorem Sl.of_Sh {w : World} {base : Nat} {ok : Nat → Prop} {v : Value} {ls : List (List Rw)} (h : kSh.R 27 w base ok v ls) : Sl (Kd.slice 102 kRw) w v ls := by
 obtain ⟨A, c, rfl, h1, h2⟩ := Kd.R_reads h
 exact ⟨A, c, rfl, h1, h2⟩
theorem SpT.s {w : World} {base : Nat} {ok : Nat → Prop} {a b : Value} {ls : List (List Rw)} {f : List Tm} (h : SpT w base ok a b ls f) : SpS w a b ls f := ⟨Sl.of_Sh h.1, Sl.of_R h.2⟩
theorem SpT.below {w w' : World} {base : Nat} {ok : Nat → Prop} {a b : Value} {ls : List (List Rw)} {f : List Tm} (h : SpT w base ok a b ls f) (hb : Below w.heap.size w w') : SpT w' base ok a b ls f := ⟨Kd.R_below h.1 hb, Kd.R_below h.2 hb⟩
theorem SpT.lower {w : World} {base base' : Nat} {ok : Nat → Prop} {a b : Value} {ls : List (List Rw)} {f : List Tm} (h : SpT w base ok a b ls f) (hb : base' ≤ base) : SpT w base' ok a b ls f := ⟨Kd.R_lower h.1 hb, Kd.R_lower h.2 hb⟩
def SpU (w : World) (ls : List (List Rw)) (f : List Tm) (r : Bool) (e : Ending) (w' : World) : Prop := ∃ a b : Value, e = .returned (.tuple #[.agg #[a, b], .bool r]) ∧ SpT w' w.heap.size okT a b ls f ∧ Below w.heap.size w w'
theorem rr_take {α : Type} {R : α → List Value → Prop} {size : Nat} {w : World} {A : Option Addr} {n : Nat} {ps : List α} (h : ReadsRow R size w A n ps) {m : Nat} (hm : m ≤ n) : ReadsRow R size w A m (ps.take m) := by
 obtain ⟨h1, h2, h3⟩ := h
 refine ⟨by rw [List.length_take]; omega, by omega, fun h0 => ?_⟩
 obtain ⟨ad, e, hc⟩ := h3 (by omega)
 refine ⟨ad, e, fun j p hj => hc j p ?_⟩
 rw [List.getElem?_take] at hj
 split at hj
 ·exact hj
 ·cases hj
theorem rr_drop {α : Type} {R : α → List Value → Prop} {size : Nat} {w : World} {A : Option Addr} {n c : Nat} {ps : List α} (h : ReadsRow R size w A n ps) {m : Nat} (hm : m ≤ n) (hnc : n ≤ c) : ReadsRow R size w (if c = m then A else A.map (·.add (m * size))) (n - m) (ps.drop m) := by
 obtain ⟨h1, h2, h3⟩ := h
 refine ⟨by rw [List.length_drop]; omega, by omega, fun h0 => ?_⟩
 obtain ⟨ad, e, hc⟩ := h3 (by omega)
 subst e
 rw [if_neg (by omega)]
 refine ⟨_, rfl, fun j p hj => ?_⟩
 rw [List.getElem?_drop] at hj
 obtain ⟨c', g1, g2, g3⟩ := hc (m + j) p hj
 refine ⟨c', g1, g2, fun i u hu => ?_⟩
 have := g3 i u hu
 rw [Go.Deep.add_add, ← Nat.add_assoc, ← Nat.add_mul]
 exact this
theorem shRead {w W : World} {base : Nat} {ok : Nat → Prop} {A : Option Addr} {n c : Nat} {ls : List (List Rw)} (h : kSh.R 27 w base ok (.slice A n c) ls) (hb : Below w.heap.size w W) : ReadsRow (kSh.M W base (fun q => q < w.heap.size)) 1 W A n ls := by
 obtain ⟨h0, inner, ho, hr⟩ := Kd.R_bound h
 obtain ⟨A', c', e, _, hR⟩ := OwnRow.reads ⟨inner, ho, hr⟩
 cases e
 exact hR.imp_ hb (fun p cs hp => kSh.M_below (kSh.M_mono (fun q hq => hq.1.2.2.1) hp) hb)
section
variable {ops : Array Oper} {o : Oper} {a : Act} {Q : Exit → Act → World → Prop} {Kc : Act → World → Prop}
theorem stepLay {W : World} {base N0 : Nat} {s x : Operand} {xs ys : List (List Rw)} {ok : Nat → Prop} {A : Option Addr} {m c : Nat} (hw : Region.wanted o (yielded ops a.tmps) = true)
  (ho : o.op = .call { callee := .builtin .append, args := #[s, x], argTypes := #[23, 23] })
  (hx : a.eval x = .slice A m c) (HO : kSh.R 27 W base ok (a.eval s) xs) (HR : ReadsRow (kSh.M W base (fun q => q < N0)) 1 W A m ys) (hown : ∀ q, (a.eval s).ownBlock = some q → N0 ≤ q) (hN : N0 ≤ W.heap.size) (hok : ∀ q, q < N0 → ok q) (hfresh : ∀ k, W.heap.size ≤ k → ok k) (hbase : base ≤ W.heap.size) (hl : xs.length + m < 3518437208000)
  (h : ∀ v1 w1, kSh.R 27 w1 base ok v1 (xs ++ ys) → Below N0 W w1 → (∀ q, v1.ownBlock = some q → N0 ≤ q) → W.grownBy w1 (a.eval s).ownBlock → Kc (a.put o.dst v1) w1) :
  if Region.wanted o (yielded ops a.tmps) = true then Oper.wp Try.prog o a W Kc Q else Kc (a.put o.dst undef) W :=
 Kd.R_append_rows_step kSh (w0 := W) base hw s x 23 27 (.slice none 0 0) 24 ho underRwSS infoRwS rfl (by decide) (by omega) _ xs ys A m c ok (fun q => q < N0) rfl hx HO HR (fun _ _ hp => hp) (fun q hq => ⟨hok q hq, fun e => by have := hown q e.symm; omega⟩) hfresh (Below.refl _ _) hbase (by omega)
  (fun v1 w1 h1 h2 h3 h4 => h v1 w1 h1 ((Below.refl N0 W).grown h3 hN (fun k hk => hown k hk)) (fun q hq => by
   rcases h4 with h4 | ⟨b, h4, h5⟩
   ·rw [h4] at hq; exact hown q hq
   ·rw [h4] at hq; have := Option.some.inj hq; omega) h3)
end
section
variable {ops : Array Oper} {rest : List Oper} {o : Oper} {a : Act} {Q : Exit → Act → World → Prop}
theorem appLay {W : World} {base N0 : Nat} {s x : Operand} {xs : List (List Rw)} {y : List Rw} {u : Value} {ok : Nat → Prop} (hgd : o.guard = none)
  (ho : o.op = .call { callee := .builtin .append, args := #[s, x], argTypes := #[23, 23] })
  (hx : a.eval x = .slice (some ⟨W.heap.size, 0, none⟩) 1 1) (HO : kSh.R 27 W base ok (a.eval s) xs) (HM : kSh.M W base (fun q => q < N0) y [u]) (hown : ∀ q, (a.eval s).ownBlock = some q → N0 ≤ q) (hN : N0 ≤ W.heap.size) (hok : ∀ q, q < N0 → ok q) (hfresh : ∀ k, W.heap.size ≤ k → ok k) (hbase : base ≤ W.heap.size) (hl : xs.length < 3518437208000)
  (h : ∀ v1 w1, kSh.R 27 w1 base ok v1 (xs ++ [y]) → Below N0 W w1 → (∀ q, v1.ownBlock = some q → N0 ≤ q) → W.grownBy w1 (a.eval s).ownBlock → wpList Try.prog ops Q rest (a.put o.dst v1) w1) :
  wpList Try.prog ops Q (o :: rest) a (W.alloc (.cells #[u] 27)) :=
 Kd.R_append kSh (w0 := W) base hgd s x 23 27 (.slice none 0 0) 24 ho underRwSS infoRwS rfl (by decide) (by omega) _ xs y [u] ok (fun q => q < N0) rfl hx HM (fun q hq => ⟨hok q hq, fun e => by have := hown q e.symm; omega⟩) hfresh HO (Below.refl _ _) hbase (by omega)
  (fun v1 w1 h1 h2 h3 h4 => h v1 w1 h1 ((Below.refl N0 W).grown h3 hN (fun k hk => hown k hk)) (fun q hq => by
   rcases h4 with h4 | ⟨b, h4, h5⟩
   ·rw [h4] at hq; exact hown q hq
   ·rw [h4] at hq; have := Option.some.inj hq; omega) h3)
end
section
variable {ops : Array Oper} {o : Oper} {a : Act} {Q : Exit → Act → World → Prop} {Kc : Act → World → Prop}
theorem stepLay1 {W : World} {base : Nat} {s x : Operand} {xs : List (List Rw)} {y : List Rw} {u : Value} {ok okp : Nat → Prop} (hw : Region.wanted o (yielded ops a.tmps) = true)
  (ho : o.op = .call { callee := .builtin .append, args := #[s, x], argTypes := #[23, 23] })
  (hx : a.eval x = .slice (some ⟨W.heap.size, 0, none⟩) 1 1) (HO : kSh.R 27 W base ok (a.eval s) xs) (HM : kSh.M W base okp y [u]) (hokp : ∀ k, okp k → ok k ∧ some k ≠ (a.eval s).ownBlock) (hfresh : ∀ k, W.heap.size ≤ k → ok k) (hbase : base ≤ W.heap.size) (hl : xs.length < 3518437208000)
  (h : ∀ v1 w1, kSh.R 27 w1 base ok v1 (xs ++ [y]) → Below base W w1 → W.grownBy w1 (a.eval s).ownBlock → Kc (a.put o.dst v1) w1) :
  if Region.wanted o (yielded ops a.tmps) = true then Oper.wp Try.prog o a (W.alloc (.cells #[u] 27)) Kc Q else Kc (a.put o.dst undef) (W.alloc (.cells #[u] 27)) :=
 Kd.R_append_step kSh (w0 := W) base hw s x 23 27 (.slice none 0 0) 24 ho underRwSS infoRwS rfl (by decide) (by omega) _ xs y [u] ok okp rfl hx HM hokp hfresh HO (Below.refl _ _) hbase (by omega) (fun v1 w1 h1 h2 h3 _ => h v1 w1 h1 h2 h3)
end
end Go.Proofs.Ytkdendlgaaimbaa.X
