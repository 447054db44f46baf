/- Conditions: none. -/
import Derived.Test.YtkdendlgaaimbaaYDShd
import Derived.Test.YtkdendlgaaimbaaYDMv
namespace Go.Proofs.Ytkdendlgaaimbaa.X
open Go.RowKit Go.Proofs.Ytkdendlgaaimbaa.PSpP Go.Proofs.YtkdendlgaaimbaaW.PrintWords
set_option linter.unusedVariables false
set_option linter.unusedSimpArgs false
theorem frontMove_l (f : List Tm) (t : Tm) (hl : f.length ≤ 1048576) : ∀ n i : Nat, i + n = f.length → 1 ≤ i → ∀ o : Tm, Ev (fun k => spec_FrontMove.l0 k f i t.f0 t.f1 o.f0 o.f1) ((moveGo t o (f.drop i)).f0, (moveGo t o (f.drop i)).f1) := by
 intro n
 induction n with
 | zero =>
  intro i hi h1 o
  refine Ev.succ (Ev.all fun k => ?_)
  simp only [spec_FrontMove.l0]
  rw [if_neg (by omega), List.drop_eq_nil_of_le (by omega)]
  rfl
 | succ n ih =>
  intro i hi h1 o
  have hs := getD_drop (l := f) (i := i) (by omega) z43
  rw [hs, moveGo]
  refine Ev.succ (Ev.of (ih (i + 1) (by omega) (by omega) (tMeet o (tJoin (f.getD i z43) t))) fun k => ?_)
  simp only [spec_FrontMove.l0, spec_TimeJoin.f, spec_TimeMeet.f, Option.bind_some]
  rw [if_pos (by omega), if_pos (by omega), wnext (m := f.length) (by omega) (by omega)]
  rfl
theorem frontMove_e (f : List Tm) (t : Tm) (hl : f.length ≤ 1048576) (hf : frontOk f = true) (ht : tOk t = true) : Ev (fun k => spec_FrontMove.f k f t.f0 t.f1) ((moved f t).f0, (moved f t).f1) := by
 simp only [spec_FrontMove.f, spec_FrontOk.f, spec_TimeOk.f, Option.bind_some]
 rw [hf]
 simp only [if_true]
 show Ev (fun k => spec_FrontMove.j0 k f (!tOk t) t.f0 t.f1) _
 rw [ht]
 refine Ev.succ ?_
 cases f with
 | nil => exact Ev.all fun k => by simp [spec_FrontMove.j0, moved]
 | cons s f =>
  have hs := frontOk_all hf s List.mem_cons_self
  have hj := tJoin_okk hs ht
  have hm : tMeet (tJoin s t) (tJoin s t) = tJoin s t := by
   rw [tMeet_ok hj hj]
   exact Tm.ext' (by show tmin _ _ = _; unfold tmin; split <;> rfl) (by show tmin _ _ = _; unfold tmin; split <;> rfl)
  have e : moved (s :: f) t = moveGo t (tJoin s t) f := by show moveGo t (tJoin s t) (s :: f) = _; rw [moveGo, hm]
  rw [e]
  refine Ev.of (frontMove_l (s :: f) t hl f.length 1 (by rw [List.length_cons]; omega) (Nat.le_refl _) (tJoin s t)) fun k => ?_
  have e0 : ((((s :: f).length : Int)) == 0) = false := by simp; omega
  have e1 : (((s :: f).length : Int)) = 0 ↔ False := by simp; omega
  simp only [spec_FrontMove.j0, spec_TimeJoin.f, Option.bind_some, Bool.not_true, Bool.false_eq_true, if_false, e0, e1]
  rw [if_pos (by rw [List.length_cons]; omega)]
  rfl
theorem spec_FrontMove (v : Value) (f : List Tm) (t : Tm) (w : World) (h : Sl kTm w v f) (hl : f.length ≤ 1048576) (hf : frontOk f = true) (ht : tOk t = true) : Calls Try.prog 99 #[v, .agg #[.int .i64 t.f0, .int .i64 t.f1]] w (RetV w (.agg #[.int .i64 (moved f t).f0, .int .i64 (moved f t).f1])) := by
 obtain ⟨A, c, rfl, hc, hr⟩ := h
 obtain ⟨k, hk⟩ := (frontMove_e f t hl hf ht).get
 exact spec_FrontMove.calls k A c f t.f0 t.f1 _ _ w hr hc hk
end Go.Proofs.Ytkdendlgaaimbaa.X
