/- Conditions: none. -/
import Derived.Test.YtkdendlgaaimbaaYQDrPo
import Derived.Test.YtkdendlgaaimbaaYQPsP
import Derived.Test.YtkdendlgaaimbaaYQLw
import Derived.Test.YtkdendlgaaimbaaYQSb
import Derived.Test.YtkdendlgaaimbaaYCPl
import Derived.Test.YtkdendlgaaimbaaYQPl
import Derived.Test.YtkdendlgaaimbaaYQDrawRows
import Derived.RegionTactic
import Derived.BigRegion
import Derived.Test.YtkdendlgaaimbaaYQBytes
namespace Go.Proofs.Ytkdendlgaaimbaa.X
open Go.RowKit Go.Proofs.YtkdendlgaaimbaaW.PrintWords
set_option linter.unusedVariables false
set_option linter.unusedSimpArgs false
theorem planSet_ok (x : Pn) (ins : List (List It)) : setOk ((planSet x ins).getD []) = true ∧ ((planSet x ins).isSome = false → (planSet x ins).getD [] = []) := by
 cases h : planSet x ins with
 | none => exact ⟨by decide, fun _ => rfl⟩
 | some l =>
  refine ⟨?_, fun e => by cases e⟩
  unfold planSet at h
  split at h
  ·exact setP_ok h
  ·cases h
set_option maxRecDepth 100000 in
set_option maxHeartbeats 4000000 in
theorem laws_FnPlanSetOk (v : Value) (l : List Int) (w : World) (h : IsBytes w v l) : Calls Try.prog 8 #[v] w (RetV w (.bool true)) := by
 have H := Aside0.mk h
 obtain ⟨⟨A, c, rfl, hc, hr⟩, hb⟩ := h
 have hm := Kd.C_max hr
 clear hr hb
 have HB := Aside0.mk (Below.refl w.heap.size w)
 go_enter Try.func8, Try.ntmps8
 by_cases hl : 1048576 < l.length
 ·have hl' : (l.length : Int) > 1048576 := by omega
  go_wp2
  go_ret
  exact RetV.mk rfl HB.out
 have hl' : ¬ (l.length : Int) > 1048576 := by omega
 go_upto_region 4 with (go_at_call 40; ((with_reducible refine (spec_DrawPlanSet (.slice A l.length c) l w H.out.sl H.out.by_).mono ?_); rintro e wa ⟨x, A1, c1, v2, ins, rfl, h1, h2, h3⟩; have HX := Aside0.mk h1; have HI := Aside0.mk h2; replace HB := Aside0.mk h3; clear h1 h2 h3))
 refine name_world fun W1 hW1 => ?_
 have hb1 : Below wa.heap.size wa W1 := hW1 ▸ below_alloc (Below.refl _ _) _
 have X0 : W1.cell? ⟨wa.heap.size, 0, none⟩ = some (.int .i64 x.f0) := by rw [hW1]; simp
 have X1 : W1.cell? ⟨wa.heap.size, 1, none⟩ = some (.int .i64 x.f1) := by rw [hW1]; simp
 have X2 : W1.cell? ⟨wa.heap.size, 2, none⟩ = some (.slice A1 x.f2.length c1) := by rw [hW1]; simp
 clear hW1
 replace HX := Aside0.mk (HX.out.below hb1)
 replace HI := Aside0.mk (HI.out.below hb1)
 replace HB := Aside0.mk (bthen HB.out hb1)
 clear hb1
 obtain ⟨N, hN⟩ : ∃ N, N = wa.heap.size := ⟨_, rfl⟩
 rw [← hN] at X0 X1 X2 ⊢
 clear hN
 have PO := fun v v2 W h h2 => impl_PlanSet x v v2 ins W h h2
 have PS := fun v v2 W h h2 => spec_PlanSet x v v2 ins W h h2
 obtain ⟨hok, hno⟩ := planSet_ok x ins
 generalize (planSet x ins).getD [] = ts at PO PS hok hno
 generalize (planSet x ins).isSome = ok at PO PS hno
 have HPO := Aside0.mk PO
 have HPS := Aside0.mk PS
 have HOK := Aside0.mk hok
 clear PO PS hok
 go_upto_region 5 with (go_at_call 41; ((with_reducible refine (HPS.out _ _ _ HX.out HI.out).mono ?_); rintro e w2 ⟨vw, rfl, hr, hb⟩; have HW := Aside0.mk (Sl.of_R hr); replace X0 := pw_cell_below hb X0; replace X1 := pw_cell_below hb X1; replace X2 := pw_cell_below hb X2; replace HX := Aside0.mk (HX.out.below hb); replace HI := Aside0.mk (HI.out.below hb); replace HB := Aside0.mk (bthen HB.out hb); clear hr hb))
 go_upto_region 6 with (go_at_call 42; ((with_reducible refine (HPO.out _ _ _ HX.out HI.out).mono ?_); rintro e w3 ⟨vs, rfl, hr, hb⟩; have HS := Aside0.mk (Sl.of_R hr); obtain ⟨A3, c3, e3⟩ := Kd.R_slice hr; subst e3; replace HW := Aside0.mk (HW.out.below hb); replace HB := Aside0.mk (bthen HB.out hb); clear hr hb X0 X1 X2 HX HI))
 have q0 : decide (ts = ts) = true := decide_eq_true rfl
 cases ok with
 | true =>
  clear hno
  have LI := Aside0.mk (fun W h h2 => by have := laws_lwItems (.slice A3 ts.length c3) vw ts ts W h h2; rw [q0] at this; exact this)
  have LS := Aside0.mk (fun W h => by have := impl_SetOk (.slice A3 ts.length c3) ts W h; rw [HOK.out] at this; exact this)
  go_wp2_with (first
   | (go_at_call 27; ((with_reducible refine (LI.out _ HS.out HW.out).mono ?_); rintro e w4 ⟨rfl, hb⟩; replace HS := Aside0.mk (HS.out.below hb); replace HB := Aside0.mk (bthen HB.out hb); clear hb))
   | (go_at_call 43; ((with_reducible refine (LS.out _ HS.out).mono ?_); rintro e w5 ⟨rfl, hb⟩; replace HB := Aside0.mk (bthen HB.out hb); clear hb)))
  go_ret
  exact RetV.mk rfl HB.out
 | false =>
  have ht := hno rfl
  subst ht
  clear hno
  have LI := Aside0.mk (fun W h h2 => by have := laws_lwItems (.slice A3 0 c3) vw [] [] W h h2; rw [q0] at this; exact this)
  have LS := Aside0.mk (fun W h => by have := impl_SetOk (.slice A3 0 c3) [] W h; rw [HOK.out] at this; exact this)
  go_wp2_with (first
   | (go_at_call 27; ((with_reducible refine (LI.out _ HS.out HW.out).mono ?_); rintro e w4 ⟨rfl, hb⟩; replace HS := Aside0.mk (HS.out.below hb); replace HB := Aside0.mk (bthen HB.out hb); clear hb))
   | (go_at_call 43; ((with_reducible refine (LS.out _ HS.out).mono ?_); rintro e w5 ⟨rfl, hb⟩; replace HB := Aside0.mk (bthen HB.out hb); clear hb)))
  go_ret
  exact RetV.mk rfl HB.out
end Go.Proofs.Ytkdendlgaaimbaa.X
