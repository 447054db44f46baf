/- Proved: the printed form of FnExactSpineOk answers true at each spine, with enough rounds. Conditions: that its slices are no longer than a slice can be. -/
import Derived.Test.YtdppnipodndcpaaPFnExactSpineOkx0
import Derived.Test.YtdppnipodndcpaaPFnExactSpineOkx1
import Derived.Test.YtdppnipodndcpaaPFnExactSpineOkx2
import Derived.Test.YtdppnipodndcpaaPFnExactSpineOkx3
import Derived.Test.YtdppnipodndcpaaPFnExactSpineOkx4
import Derived.Test.YtdppnipodndcpaaXEv
namespace Go.Proofs.Ytdppnipodndcpaa.Pure
open Go.RowKit Go.Proofs.Ytdppnipodndcpaa.PFnExactSpineOk Go.Proofs.YtdppnipodndcpaaW.PrintWords
set_option linter.unusedVariables false
set_option linter.unusedSimpArgs false

/-! the copies, the sizes, the comparisons -/
theorem eqTime_e (a b : Int) : laws_eqTime.f a b a b = some true := by simp [laws_eqTime.f]
theorem eqTimeS_l (x : List X.Tm) (hx : x.length ≤ 1152921504606846976) : ∀ n i : Nat, i + n = x.length → X.Ev (fun k => laws_eqTimeS.l0 k x x i) true := by
  intro n
  induction n with
  | zero =>
    intro i hi
    refine X.Ev.succ (X.Ev.all fun k => ?_)
    simp only [laws_eqTimeS.l0]
    rw [if_neg (by omega)]
  | succ n ih =>
    intro i hi
    refine X.Ev.succ ?_
    simp only [laws_eqTimeS.l0, eqTime_e, Option.bind_some, if_true]
    refine X.Ev.of (ih (i + 1) (by omega)) (fun k => ?_)
    rw [if_pos (by omega), if_pos (by omega), X.wnext (by omega) hx]
    simp only [if_pos (show (i : Int) < (x.length : Int) by omega)]
theorem eqTimeS_e (x : List X.Tm) (hx : x.length ≤ 1152921504606846976) : X.Ev (fun k => laws_eqTimeS.f k x x) true := by
  simp only [laws_eqTimeS.f, if_true]
  exact eqTimeS_l x hx x.length 0 (by omega)
theorem eqRow_e (a b c d e : Int) : laws_eqRow.f a b c d e a b c d e = some true := by simp [laws_eqRow.f, eqTime_e]
theorem eqRowS_l (x : List X.Rw) (hx : x.length ≤ 1152921504606846976) : ∀ n i : Nat, i + n = x.length → X.Ev (fun k => laws_eqRowS.l0 k x x i) true := by
  intro n
  induction n with
  | zero =>
    intro i hi
    refine X.Ev.succ (X.Ev.all fun k => ?_)
    simp only [laws_eqRowS.l0]
    rw [if_neg (by omega)]
  | succ n ih =>
    intro i hi
    refine X.Ev.succ ?_
    simp only [laws_eqRowS.l0, eqRow_e, Option.bind_some, if_true]
    refine X.Ev.of (ih (i + 1) (by omega)) (fun k => ?_)
    rw [if_pos (by omega), if_pos (by omega), X.wnext (by omega) hx]
    simp only [if_pos (show (i : Int) < (x.length : Int) by omega)]
theorem eqRowS_e (x : List X.Rw) (hx : x.length ≤ 1152921504606846976) : X.Ev (fun k => laws_eqRowS.f k x x) true := by
  simp only [laws_eqRowS.f, if_true]
  exact eqRowS_l x hx x.length 0 (by omega)
theorem eqRowSS_l (x : List (List X.Rw)) (hx : x.length ≤ 1152921504606846976) (hx2 : ∀ y ∈ x, y.length ≤ 1152921504606846976) : ∀ n i : Nat, i + n = x.length → X.Ev (fun k => laws_eqRowSS.l0 k x x i) true := by
  intro n
  induction n with
  | zero =>
    intro i hi
    refine X.Ev.succ (X.Ev.all fun k => ?_)
    simp only [laws_eqRowSS.l0]
    rw [if_neg (by omega)]
  | succ n ih =>
    intro i hi
    refine X.Ev.succ ?_
    simp only [laws_eqRowSS.l0]
    have hm : x.getD i [] ∈ x := List.mem_of_getElem? (X.getD_some (by omega) [])
    refine X.Ev.of (X.Ev.bind (g := fun k t => if t = true then laws_eqRowSS.l0 k x x ((i + 1 : Nat) : Int) else some false) (eqRowS_e (x.getD i []) (hx2 _ hm)) (by simpa using ih (i + 1) (by omega))) (fun k => ?_)
    rw [if_pos (by omega), if_pos (by omega), X.wnext (by omega) hx]
    simp only [if_pos (show (i : Int) < (x.length : Int) by omega)]
    rfl
theorem eqRowSS_e (x : List (List X.Rw)) (hx : x.length ≤ 1152921504606846976) (hx2 : ∀ y ∈ x, y.length ≤ 1152921504606846976) : X.Ev (fun k => laws_eqRowSS.f k x x) true := by
  simp only [laws_eqRowSS.f, if_true]
  exact eqRowSS_l x hx hx2 x.length 0 (by omega)
theorem eqSpine_e (x : List (List X.Rw)) (f : List X.Tm) (hx : x.length ≤ 1152921504606846976) (hx2 : ∀ y ∈ x, y.length ≤ 1152921504606846976) (hf : f.length ≤ 1152921504606846976) : X.Ev (fun k => laws_eqSpine.f k x f x f) true := by
  simp only [laws_eqSpine.f]
  refine X.Ev.bind (eqRowSS_e x hx hx2) ?_
  simp only [if_true]
  refine X.Ev.bind (eqTimeS_e f hf) ?_
  simp only [if_true]
  exact X.Ev.pure _
theorem szTimeS_e (l : List X.Tm) (left : Int) (h0 : 0 ≤ left) (h1 : left ≤ 1048576) (hl : l.length ≤ 9223372036854775807) : laws_szTimeS.f l left = some (if left < l.length then -1 else left - l.length) := by
  unfold laws_szTimeS.f
  have e : wrap64 (left - (l.length : Int)) = left - l.length := by unfold wrap64; omega
  rw [e]
  by_cases h : left < l.length
  · rw [if_pos (by omega), if_pos h]
  · rw [if_neg (by omega), if_neg h]
theorem szRowS_e (l : List X.Rw) (left : Int) (h0 : 0 ≤ left) (h1 : left ≤ 1048576) (hl : l.length ≤ 9223372036854775807) : laws_szRowS.f l left = some (if left < l.length then -1 else left - l.length) := by
  unfold laws_szRowS.f
  have e : wrap64 (left - (l.length : Int)) = left - l.length := by unfold wrap64; omega
  rw [e]
  by_cases h : left < l.length
  · rw [if_pos (by omega), if_pos h]
  · rw [if_neg (by omega), if_neg h]
theorem szRowSS_l (x : List (List X.Rw)) (hx : x.length ≤ 1048576) (hx2 : ∀ y ∈ x, y.length ≤ 9223372036854775807) : ∀ n i : Nat, ∀ left : Int, 0 ≤ left → left ≤ 1048576 → i + n = x.length →
    ∃ r : Int, X.Ev (fun k => laws_szRowSS.l0 k x left i) r ∧ (r = -1 ∨ 0 ≤ r ∧ r ≤ left ∧ ∀ y ∈ x.drop i, y.length ≤ 1048576) := by
  intro n
  induction n with
  | zero =>
    intro i left h0 h1 hi
    refine ⟨left, X.Ev.succ (X.Ev.all fun k => ?_), .inr ⟨h0, Int.le_refl _, ?_⟩⟩
    · simp only [laws_szRowSS.l0]
      rw [if_neg (by omega)]
    · rw [List.drop_eq_nil_of_le (by omega)]; intro y hy; cases hy
  | succ n ih =>
    intro i left h0 h1 hi
    have hm : x.getD i [] ∈ x := List.mem_of_getElem? (X.getD_some (by omega) [])
    have hr : ∀ k, laws_szRowSS.l0 (k + 1) x left i = if left < ((x.getD i []).length : Int) then some (-1) else laws_szRowSS.l0 k x (left - ((x.getD i []).length : Int)) ((i + 1 : Nat) : Int) := fun k => by
      simp only [laws_szRowSS.l0]
      rw [if_pos (by omega), if_pos (by omega), X.wnext (m := x.length) (by omega) (by omega)]
      show ((laws_szRowS.f (x.getD i []) left).bind _) = _
      rw [szRowS_e _ _ h0 h1 (hx2 _ hm), Option.bind_some]
      by_cases h : left < ((x.getD i []).length : Int)
      · rw [if_pos h, if_pos h, if_pos (by omega)]
      · rw [if_neg h, if_neg h, if_neg (by omega)]
    by_cases h : left < ((x.getD i []).length : Int)
    · exact ⟨-1, X.Ev.succ (X.Ev.all fun k => by rw [hr, if_pos h]), .inl rfl⟩
    · obtain ⟨r, hr1, hr2⟩ := ih (i + 1) (left - ((x.getD i []).length : Int)) (by omega) (by omega) (by omega)
      refine ⟨r, X.Ev.succ (X.Ev.of hr1 fun k => by rw [hr, if_neg h]), ?_⟩
      rcases hr2 with hr2 | ⟨ha, hb, hc⟩
      · exact .inl hr2
      · refine .inr ⟨ha, by omega, ?_⟩
        rw [X.getD_drop (by omega) []]
        intro y hy
        rcases List.mem_cons.1 hy with rfl | hy
        · omega
        · exact hc y hy
theorem szRowSS_e (x : List (List X.Rw)) (left : Int) (h0 : 0 ≤ left) (h1 : left ≤ 1048576) (hx : x.length ≤ 9223372036854775807) (hx2 : ∀ y ∈ x, y.length ≤ 9223372036854775807) :
    ∃ r : Int, X.Ev (fun k => laws_szRowSS.f k x left) r ∧ (r = -1 ∨ 0 ≤ r ∧ r ≤ left ∧ x.length ≤ 1048576 ∧ ∀ y ∈ x, y.length ≤ 1048576) := by
  have e : wrap64 (left - (x.length : Int)) = left - x.length := by unfold wrap64; omega
  simp only [laws_szRowSS.f, e]
  by_cases h : left < x.length
  · exact ⟨-1, X.Ev.all fun k => by rw [if_pos (by omega)], .inl rfl⟩
  · obtain ⟨r, hr1, hr2⟩ := szRowSS_l x (by omega) hx2 x.length 0 (left - x.length) (by omega) (by omega) (by omega)
    refine ⟨r, X.Ev.of hr1 fun k => by rw [if_neg (by omega)]; rfl, ?_⟩
    rcases hr2 with hr2 | ⟨ha, hb, hc⟩
    · exact .inl hr2
    · exact .inr ⟨ha, by omega, by omega, by simpa using hc⟩
theorem szSpine_e (x : List (List X.Rw)) (f : List X.Tm) (left : Int) (h0 : 0 ≤ left) (h1 : left ≤ 1048576) (hx : x.length ≤ 9223372036854775807) (hx2 : ∀ y ∈ x, y.length ≤ 9223372036854775807) (hf : f.length ≤ 9223372036854775807) :
    ∃ r : Int, X.Ev (fun k => laws_szSpine.f k x f left) r ∧ (r = -1 ∨ 0 ≤ r ∧ r ≤ left ∧ x.length ≤ 1048576 ∧ (∀ y ∈ x, y.length ≤ 1048576) ∧ f.length ≤ 1048576) := by
  obtain ⟨r, hr1, hr2⟩ := szRowSS_e x left h0 h1 hx hx2
  simp only [laws_szSpine.f]
  rcases hr2 with rfl | ⟨ha, hb, hc, hd⟩
  · exact ⟨-1, X.Ev.bind hr1 (X.Ev.all fun k => by rw [if_pos (by omega)]), .inl rfl⟩
  · have e := szTimeS_e f r ha (by omega) hf
    by_cases h : r < f.length
    · refine ⟨-1, X.Ev.bind hr1 (X.Ev.all fun k => ?_), .inl rfl⟩
      rw [if_neg (by omega), e, if_pos h, Option.bind_some, if_pos (by omega)]
    · refine ⟨r - f.length, X.Ev.bind hr1 (X.Ev.all fun k => ?_), .inr ⟨by omega, by omega, hc, hd, by omega⟩⟩
      rw [if_neg (by omega), e, if_neg h, Option.bind_some, if_neg (by omega)]
theorem toTimeS_l (x : List X.Tm) (hx : x.length ≤ 1048576) : ∀ n i : Nat, i + n = x.length → X.Ev (fun k => laws_toTimeS.l0 k x (x.take i ++ List.replicate (x.length - i) ⟨0, 0⟩) i) x := by
  intro n
  induction n with
  | zero =>
    intro i hi
    refine X.Ev.succ (X.Ev.all fun k => ?_)
    simp only [laws_toTimeS.l0]
    rw [if_neg (by omega), List.take_of_length_le (by omega), show x.length - i = 0 by omega]
    simp
  | succ n ih =>
    intro i hi
    refine X.Ev.succ ?_
    simp only [laws_toTimeS.l0, laws_toTime.f, Option.bind_some]
    refine X.Ev.of (ih (i + 1) (by omega)) (fun k => ?_)
    have hl : (i : Int) < ((x.take i ++ List.replicate (x.length - i) (⟨0, 0⟩ : X.Tm)).length : Int) := by
      rw [List.length_append, List.length_take, List.length_replicate]; omega
    rw [if_pos (by omega), if_pos (by omega), if_pos hl, X.wnext (m := x.length) (by omega) (by omega)]
    have e := X.set_next (z := (⟨0, 0⟩ : X.Tm)) (X.getD_some (l := x) (i := i) (by omega) (⟨0, 0⟩ : X.Tm))
    rw [← e]
    rfl
theorem toTimeS_e (x : List X.Tm) (hx : x.length ≤ 1048576) : X.Ev (fun k => laws_toTimeS.f k x) x := by
  refine X.Ev.of (toTimeS_l x hx x.length 0 (by omega)) (fun k => ?_)
  simp only [laws_toTimeS.f]
  rw [if_pos (by omega), if_pos (by omega)]
  rfl
theorem toRowSS_e (x : List (List X.Rw)) (hx : x.length ≤ 1048576) (hx2 : ∀ y ∈ x, y.length ≤ 1048576) (k : Nat) : laws_toRowSS.f k x = some x := by
  unfold laws_toRowSS.f
  rw [if_pos ⟨by omega, fun y hy => by have := hx2 y hy; omega⟩]
theorem toSpine_e (x : List (List X.Rw)) (f : List X.Tm) (hx : x.length ≤ 1048576) (hx2 : ∀ y ∈ x, y.length ≤ 1048576) (hf : f.length ≤ 1048576) : X.Ev (fun k => laws_toSpine.f k x f) (x, f) := by
  simp only [laws_toSpine.f, toRowSS_e x hx hx2, Option.bind_some]
  exact X.Ev.bind (toTimeS_e f hf) (X.Ev.pure _)

theorem FnExactSpineOk (x : List (List X.Rw)) (hx : x.length ≤ 9223372036854775807) (hx2 : ∀ y ∈ x, y.length ≤ 9223372036854775807) (f : List X.Tm) (hf : f.length ≤ 9223372036854775807) : ∃ k, laws_FnExactSpineOk.f k x f = some true := by
  refine X.Ev.get ?_
  obtain ⟨r, hr, hs⟩ := szSpine_e x f 1048576 (by omega) (by omega) hx hx2 hf
  simp only [laws_FnExactSpineOk.f]
  refine X.Ev.bind hr ?_
  rcases hs with rfl | ⟨h0, h1, hx', hx2', hf'⟩
  · exact X.Ev.pure _
  simp only [if_neg (show ¬ r < 0 by omega)]
  have T := toSpine_e x f hx' hx2' hf'
  refine X.Ev.bind T ?_
  simp only [spec_SpineOk.f, impl_SpineOk.f, Option.bind_some]
  refine X.Ev.bind T ?_
  simp only [if_pos (show x.length ≤ 281474976710656 by omega), Option.bind_some, bne_self_eq_false, Bool.false_eq_true, if_false]
  refine X.Ev.bind T ?_
  refine X.Ev.bind (eqSpine_e x f (by omega) (fun y hy => by have := hx2' y hy; omega) (by omega)) ?_
  simp only [if_true]
  exact X.Ev.pure _

end Go.Proofs.Ytdppnipodndcpaa.Pure
