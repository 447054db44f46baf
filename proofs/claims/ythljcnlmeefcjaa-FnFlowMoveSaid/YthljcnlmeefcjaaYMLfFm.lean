/- The walk of the law on changes of moved rows. Conditions: none. -/
import Derived.Test.YthljcnlmeefcjaaYMFrT
import Derived.Test.YthljcnlmeefcjaaYMLwM
import Derived.Test.YthljcnlmeefcjaaYMMv2
import Derived.Test.YthljcnlmeefcjaaYMFl
import Derived.Test.YthljcnlmeefcjaaYMLw
import Derived.Test.YthljcnlmeefcjaaYMBytes
import Derived.RegionTactic
import Derived.BigRegion
namespace Go.Proofs.Ythljcnlmeefcjaa.X
open Go.RowKit Go.Proofs.YthljcnlmeefcjaaW.PrintWords
set_option linter.unusedVariables false
set_option linter.unusedSimpArgs false

set_option maxRecDepth 100000 in
set_option maxHeartbeats 4000000 in
theorem laws_FnFlowMove (v v2 : Value) (l m : List Int) (w : World) (h : IsBytes w v l) (h2 : IsBytes w v2 m) : Calls Try.prog 13 #[v, v2] w (RetV w (.bool true)) := by
  have H := Aside0.mk h
  obtain ⟨⟨A, c, rfl, hc, hr⟩, hb⟩ := h
  have hm := Kd.C_max hr
  clear hr hb
  have H2 := Aside0.mk h2
  obtain ⟨⟨A2, c2, rfl, hc2, hr2⟩, hb2⟩ := h2
  have hm2 := Kd.C_max hr2
  clear hr2 hb2
  have HB := Aside0.mk (Below.refl w.heap.size w)
  go_enter Try.func13, Try.ntmps13
  by_cases hl : 1048576 < l.length
  · have hl' : (l.length : Int) > 1048576 := by omega
    go_wp2
    go_ret
    exact RetV.mk rfl HB.out
  have hl' : ¬ (l.length : Int) > 1048576 := by omega
  by_cases hl2 : 1048576 < m.length
  · have hl2' : (m.length : Int) > 1048576 := by omega
    go_wp2
    go_ret
    exact RetV.mk rfl HB.out
  have hl2' : ¬ (m.length : Int) > 1048576 := by omega
  go_upto_region 5 with (first
    | (go_at_call 76; ((with_reducible refine (spec_DrawFlowJoin (.slice A l.length c) l w H.out.sl H.out.by_).mono ?_); rintro e wa ⟨vs, vt, s, t, rfl, h1, h2, h3, h4, h5⟩; have HS := Aside0.mk h1; have HT := Aside0.mk h2; have DS := Aside0.mk h3; have DT := Aside0.mk h4; replace HB := Aside0.mk h5; clear h1 h2 h3 h4 h5))
    | (go_at_call 33; ((with_reducible refine (spec_DrawBatchMove (.slice A2 m.length c2) m wa (H2.out.below HB.out).sl H2.out.by_).mono ?_); rintro e wb ⟨vu, vf, u, f, rfl, h1, h2, h3, h4, h5⟩; have HF := Aside0.mk h3; replace HS := Aside0.mk (HS.out.below h5); replace HT := Aside0.mk (HT.out.below h5); replace HB := Aside0.mk (bthen HB.out h5); clear h1 h2 h3 h4 h5)))
  have q0 : decide (flowJoin s t = flowJoin s t) = true := decide_eq_true rfl
  by_cases hgo : rowsOk s = true ∧ rowsOk t = true ∧ frontOk f = true
  · obtain ⟨hs, ht, hf⟩ := hgo
    have K := fun how => Aside0.mk (flow_move (how := how) hs ht hf (FewR.of hs DS.out) (FewR.of ht DT.out))
    go_upto_region 9 with (first
      | (go_at_call 61; ((with_reducible refine (impl_FlowJoin vs vt s t _ HS.out HT.out).mono ?_); rintro e w' ⟨vx, rfl, hr, hb⟩; (try replace HS := Aside0.mk (HS.out.below hb)); (try replace HT := Aside0.mk (HT.out.below hb)); (try replace HF := Aside0.mk (HF.out.below hb)); (try replace HX := Aside0.mk (HX.out.below hb)); (try replace HY := Aside0.mk (HY.out.below hb)); replace HB := Aside0.mk (bthen HB.out hb); have HX := Aside0.mk (Sl.of_R hr); clear hr hb))
      | (go_at_call 77; ((with_reducible refine (spec_FlowJoin vs vt s t _ HS.out HT.out).mono ?_); rintro e w' ⟨vy, rfl, hr, hb⟩; (try replace HS := Aside0.mk (HS.out.below hb)); (try replace HT := Aside0.mk (HT.out.below hb)); (try replace HF := Aside0.mk (HF.out.below hb)); (try replace HX := Aside0.mk (HX.out.below hb)); (try replace HY := Aside0.mk (HY.out.below hb)); replace HB := Aside0.mk (bthen HB.out hb); have HY := Aside0.mk hr; clear hr hb))
      | (go_at_call 57; ((with_reducible refine (laws_lwRows vx vy (flowJoin s t) (flowJoin s t) _ HX.out HY.out).mono ?_); rintro e w' ⟨rfl, hb⟩; (try replace HS := Aside0.mk (HS.out.below hb)); (try replace HT := Aside0.mk (HT.out.below hb)); (try replace HF := Aside0.mk (HF.out.below hb)); (try replace HX := Aside0.mk (HX.out.below hb)); (try replace HY := Aside0.mk (HY.out.below hb)); replace HB := Aside0.mk (bthen HB.out hb); clear hb))
      | (go_at_call 71; ((with_reducible refine (spec_RowsOk vs s _ HS.out).mono ?_); rintro e w' ⟨rfl, hb⟩; (try replace HS := Aside0.mk (HS.out.below hb)); (try replace HT := Aside0.mk (HT.out.below hb)); (try replace HF := Aside0.mk (HF.out.below hb)); (try replace HX := Aside0.mk (HX.out.below hb)); (try replace HY := Aside0.mk (HY.out.below hb)); replace HB := Aside0.mk (bthen HB.out hb); clear hb))
      | (go_at_call 71; ((with_reducible refine (spec_RowsOk vt t _ HT.out).mono ?_); rintro e w' ⟨rfl, hb⟩; (try replace HS := Aside0.mk (HS.out.below hb)); (try replace HT := Aside0.mk (HT.out.below hb)); (try replace HF := Aside0.mk (HF.out.below hb)); (try replace HX := Aside0.mk (HX.out.below hb)); (try replace HY := Aside0.mk (HY.out.below hb)); replace HB := Aside0.mk (bthen HB.out hb); clear hb))
      | (go_at_call 78; ((with_reducible refine (spec_FrontOk vf f _ HF.out).mono ?_); rintro e w' ⟨rfl, hb⟩; (try replace HS := Aside0.mk (HS.out.below hb)); (try replace HT := Aside0.mk (HT.out.below hb)); (try replace HF := Aside0.mk (HF.out.below hb)); (try replace HX := Aside0.mk (HX.out.below hb)); (try replace HY := Aside0.mk (HY.out.below hb)); replace HB := Aside0.mk (bthen HB.out hb); clear hb)))
    generalize (1 + (m.length : Int) % 7) = how
    have K1 := fun tt h1 h2 => ((K how).out tt h1 h2).1
    have K2 := fun tt h1 h2 => ((K how).out tt h1 h2).2
    clear K
    go_wp2_with (first
      | (go_at_call 79; ((with_reducible refine (impl_BatchMove vs vf s f _ HS.out HF.out).mono ?_); rintro e w' ⟨va, rfl, hr, hb⟩; (try replace HS := Aside0.mk (HS.out.below hb)); (try replace HT := Aside0.mk (HT.out.below hb)); (try replace HF := Aside0.mk (HF.out.below hb)); (try replace HX := Aside0.mk (HX.out.below hb)); (try replace HA := Aside0.mk (HA.out.below hb)); (try replace HC := Aside0.mk (HC.out.below hb)); (try replace HD := Aside0.mk (HD.out.below hb)); (try replace HE := Aside0.mk (HE.out.below hb)); (try replace HG := Aside0.mk (HG.out.below hb)); replace HB := Aside0.mk (bthen HB.out hb); have HA := Aside0.mk (Sl.of_R hr); clear hr hb))
      | (go_at_call 79; ((with_reducible refine (impl_BatchMove vt vf t f _ HT.out HF.out).mono ?_); rintro e w' ⟨vb, rfl, hr, hb⟩; (try replace HS := Aside0.mk (HS.out.below hb)); (try replace HT := Aside0.mk (HT.out.below hb)); (try replace HF := Aside0.mk (HF.out.below hb)); (try replace HX := Aside0.mk (HX.out.below hb)); (try replace HA := Aside0.mk (HA.out.below hb)); (try replace HC := Aside0.mk (HC.out.below hb)); (try replace HD := Aside0.mk (HD.out.below hb)); (try replace HE := Aside0.mk (HE.out.below hb)); (try replace HG := Aside0.mk (HG.out.below hb)); replace HB := Aside0.mk (bthen HB.out hb); have HC := Aside0.mk (Sl.of_R hr); clear hr hb))
      | (go_at_call 61; ((with_reducible refine (impl_FlowJoin va vb (batchMove s f) (batchMove t f) _ HA.out HC.out).mono ?_); rintro e w' ⟨vc, rfl, hr, hb⟩; (try replace HS := Aside0.mk (HS.out.below hb)); (try replace HT := Aside0.mk (HT.out.below hb)); (try replace HF := Aside0.mk (HF.out.below hb)); (try replace HX := Aside0.mk (HX.out.below hb)); (try replace HA := Aside0.mk (HA.out.below hb)); (try replace HC := Aside0.mk (HC.out.below hb)); (try replace HD := Aside0.mk (HD.out.below hb)); (try replace HE := Aside0.mk (HE.out.below hb)); (try replace HG := Aside0.mk (HG.out.below hb)); replace HB := Aside0.mk (bthen HB.out hb); have HD := Aside0.mk (Sl.of_R hr); clear hr hb))
      | (go_at_call 80; ((with_reducible refine (laws_lwSame vx vc vf (flowJoin s t) (flowJoin (batchMove s f) (batchMove t f)) f _ HX.out HD.out HF.out K1).mono ?_); rintro e w' ⟨rfl, hb⟩; (try replace HS := Aside0.mk (HS.out.below hb)); (try replace HT := Aside0.mk (HT.out.below hb)); (try replace HF := Aside0.mk (HF.out.below hb)); (try replace HX := Aside0.mk (HX.out.below hb)); (try replace HA := Aside0.mk (HA.out.below hb)); (try replace HC := Aside0.mk (HC.out.below hb)); (try replace HD := Aside0.mk (HD.out.below hb)); (try replace HE := Aside0.mk (HE.out.below hb)); (try replace HG := Aside0.mk (HG.out.below hb)); replace HB := Aside0.mk (bthen HB.out hb); clear hb))
      | (go_at_call 56; ((with_reducible refine (impl_FlowEach vs s how _ HS.out).mono ?_); rintro e w' ⟨vd, rfl, hr, hb⟩; (try replace HS := Aside0.mk (HS.out.below hb)); (try replace HT := Aside0.mk (HT.out.below hb)); (try replace HF := Aside0.mk (HF.out.below hb)); (try replace HX := Aside0.mk (HX.out.below hb)); (try replace HA := Aside0.mk (HA.out.below hb)); (try replace HC := Aside0.mk (HC.out.below hb)); (try replace HD := Aside0.mk (HD.out.below hb)); (try replace HE := Aside0.mk (HE.out.below hb)); (try replace HG := Aside0.mk (HG.out.below hb)); replace HB := Aside0.mk (bthen HB.out hb); have HE := Aside0.mk (Sl.of_R hr); clear hr hb))
      | (go_at_call 56; ((with_reducible refine (impl_FlowEach va (batchMove s f) how _ HA.out).mono ?_); rintro e w' ⟨ve, rfl, hr, hb⟩; (try replace HS := Aside0.mk (HS.out.below hb)); (try replace HT := Aside0.mk (HT.out.below hb)); (try replace HF := Aside0.mk (HF.out.below hb)); (try replace HX := Aside0.mk (HX.out.below hb)); (try replace HA := Aside0.mk (HA.out.below hb)); (try replace HC := Aside0.mk (HC.out.below hb)); (try replace HD := Aside0.mk (HD.out.below hb)); (try replace HE := Aside0.mk (HE.out.below hb)); (try replace HG := Aside0.mk (HG.out.below hb)); replace HB := Aside0.mk (bthen HB.out hb); have HG := Aside0.mk (Sl.of_R hr); clear hr hb))
      | (go_at_call 80; ((with_reducible refine (laws_lwSame vd ve vf (flowEach s how) (flowEach (batchMove s f) how) f _ HE.out HG.out HF.out K2).mono ?_); rintro e w' ⟨rfl, hb⟩; (try replace HS := Aside0.mk (HS.out.below hb)); (try replace HT := Aside0.mk (HT.out.below hb)); (try replace HF := Aside0.mk (HF.out.below hb)); (try replace HX := Aside0.mk (HX.out.below hb)); (try replace HA := Aside0.mk (HA.out.below hb)); (try replace HC := Aside0.mk (HC.out.below hb)); (try replace HD := Aside0.mk (HD.out.below hb)); (try replace HE := Aside0.mk (HE.out.below hb)); (try replace HG := Aside0.mk (HG.out.below hb)); replace HB := Aside0.mk (bthen HB.out hb); clear hb)))
    go_ret
    exact RetV.mk rfl HB.out
  · have hbad : rowsOk s = false ∨ (rowsOk s = true ∧ rowsOk t = false) ∨ (rowsOk s = true ∧ rowsOk t = true ∧ frontOk f = false) := by
      cases h1 : rowsOk s <;> cases h2 : rowsOk t <;> cases h3 : frontOk f <;> simp_all
    rcases hbad with hs | ⟨hs, ht⟩ | ⟨hs, ht, hu⟩
    all_goals
      go_wp2_with (first
        | (go_at_call 61; ((with_reducible refine (impl_FlowJoin vs vt s t _ HS.out HT.out).mono ?_); rintro e w' ⟨vx, rfl, hr, hb⟩; (try replace HS := Aside0.mk (HS.out.below hb)); (try replace HT := Aside0.mk (HT.out.below hb)); (try replace HF := Aside0.mk (HF.out.below hb)); (try replace HX := Aside0.mk (HX.out.below hb)); (try replace HY := Aside0.mk (HY.out.below hb)); replace HB := Aside0.mk (bthen HB.out hb); have HX := Aside0.mk (Sl.of_R hr); clear hr hb))
        | (go_at_call 77; ((with_reducible refine (spec_FlowJoin vs vt s t _ HS.out HT.out).mono ?_); rintro e w' ⟨vy, rfl, hr, hb⟩; (try replace HS := Aside0.mk (HS.out.below hb)); (try replace HT := Aside0.mk (HT.out.below hb)); (try replace HF := Aside0.mk (HF.out.below hb)); (try replace HX := Aside0.mk (HX.out.below hb)); (try replace HY := Aside0.mk (HY.out.below hb)); replace HB := Aside0.mk (bthen HB.out hb); have HY := Aside0.mk hr; clear hr hb))
        | (go_at_call 57; ((with_reducible refine (laws_lwRows vx vy (flowJoin s t) (flowJoin s t) _ HX.out HY.out).mono ?_); rintro e w' ⟨rfl, hb⟩; (try replace HS := Aside0.mk (HS.out.below hb)); (try replace HT := Aside0.mk (HT.out.below hb)); (try replace HF := Aside0.mk (HF.out.below hb)); (try replace HX := Aside0.mk (HX.out.below hb)); (try replace HY := Aside0.mk (HY.out.below hb)); replace HB := Aside0.mk (bthen HB.out hb); clear hb))
        | (go_at_call 71; ((with_reducible refine (spec_RowsOk vs s _ HS.out).mono ?_); rintro e w' ⟨rfl, hb⟩; (try replace HS := Aside0.mk (HS.out.below hb)); (try replace HT := Aside0.mk (HT.out.below hb)); (try replace HF := Aside0.mk (HF.out.below hb)); (try replace HX := Aside0.mk (HX.out.below hb)); (try replace HY := Aside0.mk (HY.out.below hb)); replace HB := Aside0.mk (bthen HB.out hb); clear hb))
        | (go_at_call 71; ((with_reducible refine (spec_RowsOk vt t _ HT.out).mono ?_); rintro e w' ⟨rfl, hb⟩; (try replace HS := Aside0.mk (HS.out.below hb)); (try replace HT := Aside0.mk (HT.out.below hb)); (try replace HF := Aside0.mk (HF.out.below hb)); (try replace HX := Aside0.mk (HX.out.below hb)); (try replace HY := Aside0.mk (HY.out.below hb)); replace HB := Aside0.mk (bthen HB.out hb); clear hb))
        | (go_at_call 78; ((with_reducible refine (spec_FrontOk vf f _ HF.out).mono ?_); rintro e w' ⟨rfl, hb⟩; (try replace HS := Aside0.mk (HS.out.below hb)); (try replace HT := Aside0.mk (HT.out.below hb)); (try replace HF := Aside0.mk (HF.out.below hb)); (try replace HX := Aside0.mk (HX.out.below hb)); (try replace HY := Aside0.mk (HY.out.below hb)); replace HB := Aside0.mk (bthen HB.out hb); clear hb)))
      go_ret
      exact RetV.mk rfl HB.out
end Go.Proofs.Ythljcnlmeefcjaa.X

