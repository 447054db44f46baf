/- The contracts of the spine's functions that the print walks: what they answer, in this work's words. Conditions: few layers, few rows, few times. -/
import Derived.Test.YthljcnlmeefcjaaYTSpPx7
import Derived.Test.YthljcnlmeefcjaaYCBs
import Derived.Test.YthljcnlmeefcjaaYTBs
import Derived.Test.YthljcnlmeefcjaaYTSpPl
namespace Go.Proofs.Ythljcnlmeefcjaa.X
open Go.RowKit Go.Proofs.Ythljcnlmeefcjaa.PSpP Go.Proofs.YthljcnlmeefcjaaW.PrintWords
set_option linter.unusedVariables false
set_option linter.unusedSimpArgs false

theorem covers_eq {f : List Tm} {t : Tm} (hf : frontOk f = true) (ht : tOk t = true) : covers f t = beyond f t := by
  unfold covers beyond
  rw [hf, Bool.true_and]
  have h := frontOk_all hf
  clear hf
  induction f with
  | nil => rfl
  | cons a f ih =>
    rw [List.any_cons, List.any_cons, ih (fun s hs => h s (by simp [hs]))]
    unfold tLess
    rw [h a (by simp), ht]
    simp
/-- few layers, few rows, few times -/
structure SpB (ls : List (List Rw)) (f : List Tm) : Prop where
  l : ls.length ≤ 1048576
  ls : ∀ y ∈ ls, y.length ≤ 1048576
  f : f.length ≤ 1048576
/-- a spine in memory of its own -/
def SpO (w' : World) (base : Nat) (a b : Value) (ls : List (List Rw)) (f : List Tm) : Prop := Kd.S (Kd.slice 87 kRw) 38 w' base okT a ls ∧ kTm.R 79 w' base okT b f
/-- a spine that is read -/
def SpS (w : World) (a b : Value) (ls : List (List Rw)) (f : List Tm) : Prop := Sl (Kd.slice 87 kRw) w a ls ∧ Sl kTm w b f
theorem SpO.s {w : World} {base : Nat} {a b : Value} {ls : List (List Rw)} {f : List Tm} (h : SpO w base a b ls f) : SpS w a b ls f := by
  obtain ⟨A, c, rfl, h1, h2⟩ := Kd.S_reads h.1
  exact ⟨⟨A, c, rfl, h1, h2⟩, Sl.of_R h.2⟩
theorem SpS.below {w w' : World} {a b : Value} {ls : List (List Rw)} {f : List Tm} (h : SpS w a b ls f) (hb : Below w.heap.size w w') : SpS w' a b ls f := ⟨h.1.below hb, h.2.below hb⟩
/-- what a copy answers -/
def SpP (w : World) (ls : List (List Rw)) (f : List Tm) (e : Ending) (w' : World) : Prop := ∃ a b : Value, e = .returned (.agg #[a, b]) ∧ SpO w' w.heap.size a b ls f ∧ Below w.heap.size w w'
theorem flat_take {ls : List (List Rw)} {i : Nat} (h : i < ls.length) : flatL (ls.take (i + 1)) = flatL (ls.take i) ++ ls.getD i [] := by
  have hs := getD_some h ([] : List Rw)
  rw [List.take_add_one, hs, flatL_app]
  show _ ++ (ls.getD i [] ++ []) = _
  rw [List.append_nil]
theorem many_upto (ls : List (List Rw)) (i : Nat) : many (ls.take i) ≤ many ls := by
  have e : many ls = many (ls.take i ++ ls.drop i) := by rw [List.take_append_drop]
  rw [e, many_app]; omega
theorem allRows_l (ls : List (List Rw)) (hl : ls.length ≤ 1048576) (hm : many ls ≤ 400) : ∀ n i : Nat, i + n = ls.length → Ev (fun k => impl_allRows.l0 k (flatL (ls.take i)) ls ls.length i) (flatL ls) := by
  intro n
  induction n with
  | zero =>
    intro i hi
    refine Ev.succ (Ev.all fun k => ?_)
    simp only [impl_allRows.l0]
    rw [if_neg (by omega), List.take_of_length_le (by omega)]
  | succ n ih =>
    intro i hi
    have hi' : i < ls.length := by omega
    have e := flat_take hi'
    have m1 := many_upto ls (i + 1)
    rw [← flatL_len, e, List.length_append] at m1
    refine Ev.succ (Ev.of (ih (i + 1) (by omega)) fun k => ?_)
    simp only [impl_allRows.l0]
    rw [if_pos (by omega), if_pos (by omega), if_pos (by omega), wnext (m := ls.length) (by omega) (by omega), e]
    show (if (flatL (ls.take i)).length + (ls.getD i []).length < 3518437208883 then _ else none) = _
    rw [if_pos (by omega)]
    rfl
theorem specAt_l (ls : List (List Rw)) (f : List Tm) (t : Tm) (hl : ls.length ≤ 1048576) (hm : many ls ≤ 400) : ∀ n i : Nat, i + n = ls.length → Ev (fun k => spec_SpineAt.l0 k (flatL (ls.take i)) i ls f t.f0 t.f1) (batchAt (flatL ls) t, true) := by
  intro n
  induction n with
  | zero =>
    intro i hi
    refine Ev.succ (Ev.all fun k => ?_)
    simp only [spec_SpineAt.l0, spec_BatchAt.f, Option.bind_some]
    rw [if_neg (by omega), List.take_of_length_le (by omega)]
  | succ n ih =>
    intro i hi
    have hi' : i < ls.length := by omega
    have e := flat_take hi'
    have m1 := many_upto ls (i + 1)
    rw [← flatL_len, e, List.length_append] at m1
    refine Ev.succ (Ev.of (ih (i + 1) (by omega)) fun k => ?_)
    simp only [spec_SpineAt.l0]
    rw [if_pos (by omega), if_pos (by omega), wnext (m := ls.length) (by omega) (by omega), e]
    show (if (flatL (ls.take i)).length + (ls.getD i []).length < 3518437208883 then _ else none) = _
    rw [if_pos (by omega)]
    rfl
theorem fitRw_of {r : Rw} (h : rowOk r = true) : fitRw r = true := by
  obtain ⟨h1, h2⟩ := rowsOk_fit (l := [r]) (fun x hx => by rw [List.mem_singleton.1 hx]; exact h) r (List.mem_singleton.2 rfl)
  unfold wfK wfI at h1
  unfold wfI at h2
  simp only [fitRw, Bool.and_eq_true]
  exact ⟨⟨⟨⟨h1.1, h1.2.1⟩, h1.2.2.1⟩, h1.2.2.2⟩, h2⟩
theorem fits_flat {ls : List (List Rw)} {f : List Tm} (h : SpOk ls f) : (flatL ls).all fitRw = true := List.all_eq_true.2 fun r hr => fitRw_of (h.okrows r hr)
theorem implAt_e (ls : List (List Rw)) (f : List Tm) (t : Tm) (hl : ls.length ≤ 1048576) : Ev (fun k => impl_SpineAt.f k ls f t.f0 t.f1) (spAt ls f t, spMay ls f t) := by
  have hq : ls.length ≤ 281474976710656 := by omega
  simp only [impl_SpineAt.f, impl_SpineOk.f, impl_TimeOk.f, impl_beyond.f, if_pos hq, Option.bind_some]
  unfold spAt spMay
  cases h1 : spineOk ls f with
  | false => simp only [Bool.false_eq_true, if_false, Bool.false_and]; exact Ev.succ (Ev.all fun k => by simp only [impl_SpineAt.j0, if_true]; try rfl)
  | true =>
    simp only [if_true, Bool.true_and]
    have hs := spineOk_iff.1 h1
    have hn : (flatL ls).length ≤ 1000000 := by rw [flatL_len]; have := hs.rows; omega
    have HA := allRows_l ls hl hs.rows ls.length 0 (by omega)
    have H : Ev (fun k => impl_SpineAt.j0 k false ls f t.f0 t.f1) (present (flatL ls) t, true) := by
      refine Ev.succ (Ev.of (f := fun k => (impl_allRows.f k ls f).bind fun x => (impl_present.f k x t.f0 t.f1).bind fun y => (some (y, true) : Option (List It × Bool))) ?_ fun k => ?_)
      · refine Ev.bind (a := flatL ls) (by simpa [impl_allRows.f, flatL] using HA) ?_
        refine Ev.bind (a := present (flatL ls) t) (Ev.all fun k => ?_) (Ev.pure _)
        simp only [impl_present.f]
        rw [if_pos ⟨fits_flat hs, hn⟩]
      · simp only [impl_SpineAt.j0, Bool.false_eq_true, if_false]
    cases h2 : tOk t with
    | false => simp only [Bool.false_eq_true, if_false, Bool.false_and]; exact Ev.succ (Ev.all fun k => by simp only [impl_SpineAt.j0, if_true]; try rfl)
    | true =>
      simp only [if_true, Bool.true_and]
      cases f with
      | nil =>
        have e : askOk [] t = true := rfl
        simp only [e, if_true]
        exact Ev.of H fun k => if_neg (by simp)
      | cons a f =>
        simp only [if_pos (show ((a :: f).length : Int) > 0 by rw [List.length_cons]; omega)]
        show Ev (fun k => impl_SpineAt.j0 k (!beyond (a :: f) t) ls (a :: f) t.f0 t.f1) _
        have e : askOk (a :: f) t = beyond (a :: f) t := rfl
        rw [e]
        cases h3 : beyond (a :: f) t with
        | false => simp only [Bool.not_false, Bool.false_eq_true, if_false]; exact Ev.succ (Ev.all fun k => by simp only [impl_SpineAt.j0, if_true]; try rfl)
        | true => simp only [Bool.not_true, if_true]; exact H
theorem specAt_e (ls : List (List Rw)) (f : List Tm) (t : Tm) (hl : ls.length ≤ 1048576) : Ev (fun k => spec_SpineAt.f k ls f t.f0 t.f1) (spAt ls f t, spMay ls f t) := by
  simp only [spec_SpineAt.f, spec_SpineOk.f, spec_TimeOk.f, spec_FrontCovers.f, Option.bind_some]
  unfold spAt spMay
  cases h1 : spineOk ls f with
  | false => simp only [Bool.false_eq_true, if_false, Bool.false_and]; exact Ev.succ (Ev.all fun k => by simp only [spec_SpineAt.j0, if_true]; try rfl)
  | true =>
    simp only [if_true, Bool.true_and]
    have hs := spineOk_iff.1 h1
    have HA := specAt_l ls f t hl hs.rows ls.length 0 (by omega)
    cases h2 : tOk t with
    | false => simp only [Bool.false_eq_true, if_false, Bool.false_and]; exact Ev.succ (Ev.all fun k => by simp only [spec_SpineAt.j0, if_true]; try rfl)
    | true =>
      simp only [if_true, Bool.true_and]
      have e0 : batchAt (flatL ls) t = present (flatL ls) t := batchAt_ok hs.flat h2
      rw [e0] at HA
      have H : Ev (fun k => spec_SpineAt.j0 k false ls f t.f0 t.f1) (present (flatL ls) t, true) := by
        refine Ev.succ (Ev.of HA fun k => ?_)
        simp only [spec_SpineAt.j0, Bool.false_eq_true, if_false]
        rfl
      cases f with
      | nil =>
        have e : askOk [] t = true := rfl
        simp only [e, if_true]
        exact Ev.of H fun k => if_neg (by simp)
      | cons a f =>
        simp only [if_pos (show ((a :: f).length : Int) > 0 by rw [List.length_cons]; omega)]
        show Ev (fun k => spec_SpineAt.j0 k (!covers (a :: f) t) ls (a :: f) t.f0 t.f1) _
        have e : askOk (a :: f) t = covers (a :: f) t := (covers_eq hs.front h2).symm
        rw [e]
        cases h3 : covers (a :: f) t with
        | false => simp only [Bool.not_false, Bool.false_eq_true, if_false]; exact Ev.succ (Ev.all fun k => by simp only [spec_SpineAt.j0, if_true]; try rfl)
        | true => simp only [Bool.not_true, if_true]; exact H
/-- what asking answers -/
def AtP (w : World) (l : List It) (r : Bool) (e : Ending) (w' : World) : Prop := ∃ a : Value, e = .returned (.tuple #[a, .bool r]) ∧ kIt.R 151 w' w.heap.size okT a l ∧ Below w.heap.size w w'
theorem impl_SpineAt (u v : Value) (ls : List (List Rw)) (f : List Tm) (t : Tm) (w : World) (h : SpS w u v ls f) (hb : SpB ls f) : Calls Try.prog 65 #[.agg #[u, v], .agg #[.int .i64 t.f0, .int .i64 t.f1]] w (AtP w (spAt ls f t) (spMay ls f t)) := by
  obtain ⟨⟨A, c, rfl, hc, hr⟩, A2, c2, rfl, hc2, hr2⟩ := h
  obtain ⟨k, hk⟩ := (implAt_e ls f t hb.l).get
  exact impl_SpineAt.calls k A c ls A2 c2 f t.f0 t.f1 _ _ w hr hc hr2 hc2 hk
theorem spec_SpineAt (u v : Value) (ls : List (List Rw)) (f : List Tm) (t : Tm) (w : World) (h : SpS w u v ls f) (hb : SpB ls f) : Calls Try.prog 63 #[.agg #[u, v], .agg #[.int .i64 t.f0, .int .i64 t.f1]] w (AtP w (spAt ls f t) (spMay ls f t)) := by
  obtain ⟨⟨A, c, rfl, hc, hr⟩, A2, c2, rfl, hc2, hr2⟩ := h
  obtain ⟨k, hk⟩ := (specAt_e ls f t hb.l).get
  exact spec_SpineAt.calls k A c ls A2 c2 f t.f0 t.f1 _ _ w hr hc hr2 hc2 hk
theorem implAll_e (ls : List (List Rw)) (f : List Tm) (hl : ls.length ≤ 1048576) : Ev (fun k => impl_SpineAll.f k ls f) (spAll ls f) := by
  have hq : ls.length ≤ 281474976710656 := by omega
  simp only [impl_SpineAll.f, impl_SpineOk.f, if_pos hq, Option.bind_some]
  unfold spAll
  cases h1 : spineOk ls f with
  | false => simp only [Bool.false_eq_true, if_false]; exact Ev.pure _
  | true =>
    simp only [if_true]
    have hs := spineOk_iff.1 h1
    have hn : (flatL ls).length < 1099511627776 := by rw [flatL_len]; have := hs.rows; omega
    have HA := allRows_l ls hl hs.rows ls.length 0 (by omega)
    refine Ev.bind (a := flatL ls) (by simpa [impl_allRows.f, flatL] using HA) ?_
    simp only [impl_batch.f, impl_consolidated.f, impl_BatchOk.f, if_pos (show (flatL ls).all fitRw = true ∧ (flatL ls).length < 1099511627776 from ⟨fits_flat hs, hn⟩), Option.bind_some]
    unfold fit
    cases h2 : batchOk (sum (flatL ls)) <;> exact Ev.pure _
theorem specAll_l (ls : List (List Rw)) (f : List Tm) (hl : ls.length ≤ 1048576) (hs : SpOk ls f) : ∀ n i : Nat, i + n = ls.length → Ev (fun k => spec_SpineAll.l0 k (flatL (ls.take i)) i ls f) (fit (sum (flatL ls))) := by
  have h1 := spineOk_iff.2 hs
  have hn : (flatL ls).length < 900000000000 := by rw [flatL_len]; have := hs.rows; omega
  have hm := hs.rows
  intro n
  induction n with
  | zero =>
    intro i hi
    refine Ev.succ (Ev.all fun k => ?_)
    simp only [spec_SpineAll.l0]
    rw [if_neg (by omega), List.take_of_length_le (by omega)]
    simp only [spec_l2Sum.f, spec_l2Fit.f, spec_BatchOk.f, if_pos hn, Option.bind_some]
    unfold fit
    cases h2 : batchOk (sum (flatL ls)) <;> rfl
  | succ n ih =>
    intro i hi
    have hi' : i < ls.length := by omega
    have e := flat_take hi'
    have m1 := many_upto ls (i + 1)
    rw [← flatL_len, e, List.length_append] at m1
    refine Ev.succ (Ev.of (ih (i + 1) (by omega)) fun k => ?_)
    simp only [spec_SpineAll.l0, spec_SpineOk.f, Option.bind_some]
    rw [if_pos (by omega), if_pos h1, if_pos (by omega), wnext (m := ls.length) (by omega) (by omega), e]
    show (if (flatL (ls.take i)).length + (ls.getD i []).length < 3518437208883 then _ else none) = _
    rw [if_pos (by omega)]
    rfl
theorem specAll_e (ls : List (List Rw)) (f : List Tm) (hl : ls.length ≤ 1048576) : Ev (fun k => spec_SpineAll.f k ls f) (spAll ls f) := by
  simp only [spec_SpineAll.f]
  unfold spAll
  cases h1 : spineOk ls f with
  | false =>
    simp only [Bool.false_eq_true, if_false]
    refine Ev.succ (Ev.all fun k => ?_)
    simp only [spec_SpineAll.l0, spec_SpineOk.f, spec_l2Sum.f, spec_l2Fit.f, spec_BatchOk.f, h1, Bool.false_eq_true, if_false, Option.bind_some]
    have e : (if ([] : List Rw).length < 900000000000 then some (sum ([] : List Rw)) else none) = some [] := rfl
    have e2 : batchOk ([] : List Rw) = true := rfl
    simp only [e, e2, Option.bind_some, if_true, ite_self]
  | true =>
    simp only [if_true]
    have := specAll_l ls f hl (spineOk_iff.1 h1) ls.length 0 (by omega)
    simpa [flatL] using this
theorem impl_SpineAll (u v : Value) (ls : List (List Rw)) (f : List Tm) (w : World) (h : SpS w u v ls f) (hb : SpB ls f) : Calls Try.prog 51 #[.agg #[u, v]] w (RetR kRw 87 w (spAll ls f)) := by
  obtain ⟨⟨A, c, rfl, hc, hr⟩, A2, c2, rfl, hc2, hr2⟩ := h
  obtain ⟨k, hk⟩ := (implAll_e ls f hb.l).get
  exact impl_SpineAll.calls k A c ls A2 c2 f _ w hr hc hr2 hc2 hk
theorem spec_SpineAll (u v : Value) (ls : List (List Rw)) (f : List Tm) (w : World) (h : SpS w u v ls f) (hb : SpB ls f) : Calls Try.prog 50 #[.agg #[u, v]] w (RetR kRw 87 w (spAll ls f)) := by
  obtain ⟨⟨A, c, rfl, hc, hr⟩, A2, c2, rfl, hc2, hr2⟩ := h
  obtain ⟨k, hk⟩ := (specAll_e ls f hb.l).get
  exact spec_SpineAll.calls k A c ls A2 c2 f _ w hr hc hr2 hc2 hk
end Go.Proofs.Ythljcnlmeefcjaa.X

