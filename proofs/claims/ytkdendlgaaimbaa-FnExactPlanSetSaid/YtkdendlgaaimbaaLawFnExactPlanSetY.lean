/- Proved: the statement FnExactPlanSet: the program's function answers what the reference's answers, changes no argument, and hands back memory of its own. Joined out of the pure law and the walk. Conditions: none beyond the statement's own. -/
import Derived.Test.YtkdendlgaaimbaaXJn
import Derived.Test.YtkdendlgaaimbaaRows
import Derived.Test.YtkdendlgaaimbaaYPLfEps
import Derived.Test.YtkdendlgaaimbaaYCBs
import Derived.Test.YtkdendlgaaimbaaYPBs
import Derived.WalkKit
import Derived.ProofKit
import Derived.OpenShut
import Derived.ShutString
import Derived.ChangeOld
import Derived.Below
import Derived.SizedLaws
namespace Go.Proofs.Ytkdendlgaaimbaa.fnExactPlanSet
open Go.ChangeShapes Go.WideShapes Go.ChangeAt Go.RowKit
open Go.ChangeMaps (open_string shut_string)
set_option linter.unusedVariables false
theorem own : ownKnob Try.prog.godebug = none := by kernel_rfl
theorem laidOut : laidOutB Try.prog = true := by kernel_rfl
set_option maxRecDepth 100000 in
theorem lifted (os : Os) (started : os.Started) (H : Type) (enc : TypeId × Value → H) :
    ReturnsInHanded {} Try.checked os 13 .any (Rows.fnExactPlanSetSpec.pre6 enc Try.prog Try.f13 Rows.fnExactPlanSetRow.domain false) (Rows.fnExactPlanSetSpec.post enc Try.prog Try.f13 false true false false) := by
  refine returnsInHanded_of_change_sized (C := Try.checked) own started (by kernel_rfl) Try.func13
    (ChangeSpec.witness6 (enc := enc) (C := Try.checked) false ⟨#[], #[.agg #[.int .i64 0, .int .i64 0, .slice none 0 0], .slice none 0 0], []⟩ 8 (by kernel_rfl) (by kernel_rfl) (by kernel_rfl) (by kernel_rfl)) ?_
  intro W base args ds gs before hval0 hW hcnd hsz0 _
  have hval : ∀ (j : Nat) t v, Try.f13.params[j]? = some t → args[j]? = some v → Value.okWide Try.prog W .any base t v := hval0
  have hW' := hW
  obtain ⟨p, q, hA0, hV, rfl, hfz, hnd⟩ := hW
  have hA : DataW.TrodAll enc Try.prog W 0 (fun _ => true) true Try.f13.params.toList args.toList ds p := hA0
  rw [Try.params13] at hA hval
  obtain ⟨v0, vs0, d0, ds0, p0, q0, hargs, rfl, rfl, h0, r0⟩ := trodAll_cons hA
  obtain ⟨v1, vs1, d1, ds1, p1, q1, rfl, rfl, rfl, h1, r1⟩ := trodAll_cons r0
  obtain ⟨rfl, rfl, rfl⟩ := trodAll_nil r1
  obtain rfl : args = #[v0, v1] := by cases args; simp_all
  obtain ⟨rfl, rfl⟩ := trodVars_none hV
  have k0 := h0
  have lt0 : ∀ x ∈ p0, x.block < W.heap.size := by obtain ⟨m, hm⟩ := k0; exact DataW.trod_lt m _ _ _ hm
  obtain ⟨y0, A0, c0, rfl, hc0, hr0⟩ := X.arg_plan (hval 0 83 v0 rfl rfl) h0
  have k1 := h1
  have lt1 : ∀ x ∈ p1, x.block < W.heap.size := by obtain ⟨m, hm⟩ := k1; exact DataW.trod_lt m _ _ _ hm
  obtain ⟨l1, A1, c1, rfl, hc1, hr1⟩ := X.arg_slice Try.underlying84 X.opens_ItSS (hval 1 84 v1 rfl rfl) h1
  clear hA0 hval0 hsz0
  refine (X.laws_FnExactPlanSet y0 _ _ l1 W (X.Sl.mk' hr0 hc0) (X.Sl.mk' hr1 hc1)).mono fun e W' hr_ => ?_
  obtain ⟨he, bel⟩ := hr_
  subst he
  exact ⟨_, rfl, _, _, _, [], _, [], hW', trodAll_mk1 (shut_bool Try.underlying4 _), (trodAll_cons_mk (Below.trod laidOut (by kernel_rfl) (of_decide_eq_true (by kernel_rfl)) k0 bel lt0) (trodAll_cons_mk (Below.trod laidOut (by kernel_rfl) (of_decide_eq_true (by kernel_rfl)) k1 bel lt1) trodAll_mk0)), rfl, bel.frame _, fun h => by cases h⟩
set_option maxRecDepth 100000 in
set_option maxHeartbeats 40000000 in
theorem closedF : joinedFacts Try.prog 13 Try.f13 Rows.fnExactPlanSetSpec Rows.fnExactPlanSetRow = true := by
  unfold joinedFacts
  repeat' (with_reducible refine Bool.and_eq_true_iff.mpr ⟨?_, ?_⟩)
  all_goals first | with_reducible exact X.Jn.laidOut_ | with_reducible exact X.Jn.mapsRowed_ | with_reducible exact X.Jn.mayEnter_ | with_reducible exact X.Jn.stopsHeard_ | (with_reducible rw [X.Jn.liftsFinal_]; kernel_rfl) | (with_reducible rw [X.Jn.make_]; kernel_rfl) | (as_aux_lemma => kernel_rfl)
theorem over : Rows.fnExactPlanSetRow.holds Try.pinned (OpenSpec.ofChange Rows.fnExactPlanSetSpec) :=
  OpenClaim.holds_of_wide 13 Try.f13 rfl rfl rfl rfl rfl rfl rfl ⟨rfl, rfl, rfl, rfl, rfl⟩ rfl rfl rfl rfl rfl (by kernel_rfl) Try.func13 closedF
    (of_decide_eq_true (by kernel_rfl)) (by unfold Func.isWrapper; first | (rw [if_pos (by decide +kernel)]; kernel_rfl) | (rw [if_neg (by decide +kernel)]; exact ⟨rfl, rfl⟩))
    (fun os started H enc _ => lifted os started H enc)
theorem proved : Rows.FnExactPlanSetSaid := over
#print axioms proved
end Go.Proofs.Ytkdendlgaaimbaa.fnExactPlanSet
namespace Go.Proofs.Ytkdendlgaaimbaa
/-- The row, under a short name, for the claim. -/
theorem fnExactPlanSet_holds : Rows.FnExactPlanSetSaid := fnExactPlanSet.proved
end Go.Proofs.Ytkdendlgaaimbaa
