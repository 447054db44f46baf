/- The walk of the law that what is made of changes is a batch. Conditions: none. -/
import Derived.Test.YthljcnlmeefcjaaYADrFs
import Derived.Test.YthljcnlmeefcjaaYAPlH
import Derived.Test.YthljcnlmeefcjaaYAFs3
import Derived.Test.YthljcnlmeefcjaaYALw
import Derived.Test.YthljcnlmeefcjaaYABytes
import Derived.Test.YthljcnlmeefcjaaYAFl
import Derived.RegionTactic
import Derived.BigRegion
namespace Go.Proofs.Ythljcnlmeefcjaa.X
open Go.RowKit Go.Proofs.YthljcnlmeefcjaaW.PrintWords
set_option linter.unusedVariables false
set_option linter.unusedSimpArgs false

theorem fit_ok (l : List Rw) : batchOk (fit l) = true := by unfold fit; split; assumption; rfl
theorem flowEach_ok (l : List Rw) (how : Int) : batchOk (flowEach l how) = true := by unfold flowEach; split; exact fit_ok _; rfl
theorem flowJoin_ok (l m : List Rw) : batchOk (flowJoin l m) = true := by unfold flowJoin; split; exact fit_ok _; rfl
theorem batchBoth_ok (l m : List Rw) : batchOk (batchBoth l m) = true := by unfold batchBoth; split; exact fit_ok _; rfl
set_option maxRecDepth 100000 in
set_option maxHeartbeats 4000000 in
theorem laws_FnFlowBatch (v v2 : Value) (l l2 : List Int) (w : World) (h : IsBytes w v l) (h2 : IsBytes w v2 l2) : Calls Try.prog 8 #[v, v2] w (RetV w (.bool true)) := by
  have H := Aside0.mk h
  obtain ⟨⟨A, c, rfl, hc, hr⟩, hb⟩ := h
  have hm := Kd.C_max hr
  clear hr hb
  have H2 := Aside0.mk h2
  obtain ⟨⟨A2, c2, rfl, hc2, hr2⟩, hb2⟩ := h2
  have hm2 := Kd.C_max hr2
  clear hr2 hb2
  have HB := Aside0.mk (Below.refl w.heap.size w)
  go_enter Try.func8, Try.ntmps8
  by_cases hl : 1048576 < l.length
  · have hl' : (l.length : Int) > 1048576 := by omega
    go_wp2
    go_ret
    exact RetV.mk rfl HB.out
  have hl' : ¬ (l.length : Int) > 1048576 := by omega
  by_cases hl2 : 1048576 < l2.length
  · have hl2' : (l2.length : Int) > 1048576 := by omega
    go_wp2
    go_ret
    exact RetV.mk rfl HB.out
  have hl2' : ¬ (l2.length : Int) > 1048576 := by omega
  go_upto_region 4 with (go_at_call 55; ((with_reducible refine (spec_DrawFlowEach (.slice A l.length c) l w H.out.sl H.out.by_).mono ?_); rintro e wa ⟨vs, s, how, rfl, h1, h3, h4, h5⟩; have HS := Aside0.mk h1; replace HB := Aside0.mk h5; clear h1 h3 h4 h5))
  have q0 : decide (flowEach s how = flowEach s how) = true := decide_eq_true rfl
  have b1 := flowEach_ok s how
  go_upto_region 5 with (first
    | (go_at_call 56; ((with_reducible refine (impl_FlowEach vs s how _ HS.out).mono ?_); rintro e w' ⟨vx, rfl, hr, hb⟩; (try replace HS := Aside0.mk (HS.out.below hb)); (try replace HX := Aside0.mk (HX.out.below hb)); replace HB := Aside0.mk (bthen HB.out hb); have HX := Aside0.mk (Sl.of_R hr); clear hr hb)))
  have b2 := fun kind => flowSum_ok (a := s) (kind := kind)
  have b3 := flowJoin_ok s (flowEach s how)
  have b4 := batchBoth_ok s (flowEach s how)
  go_upto_region 6 with fail
  go_wp2_with (first
    | (go_at_call 58; ((with_reducible refine (spec_FlowEach vs s how _ HS.out).mono ?_); rintro e w' ⟨vy, rfl, hr, hb⟩; (try replace HS := Aside0.mk (HS.out.below hb)); (try replace HX := Aside0.mk (HX.out.below hb)); (try replace HY := Aside0.mk (HY.out.below hb)); (try replace HQ := Aside0.mk (HQ.out.below hb)); (try replace HJ := Aside0.mk (HJ.out.below hb)); (try replace HC := Aside0.mk (HC.out.below hb)); replace HB := Aside0.mk (bthen HB.out hb); have HY := Aside0.mk hr; clear hr hb))
    | (go_at_call 57; ((with_reducible refine (laws_lwRows vx vy (flowEach s how) (flowEach s how) _ HX.out HY.out).mono ?_); rintro e w' ⟨rfl, hb⟩; (try replace HS := Aside0.mk (HS.out.below hb)); (try replace HX := Aside0.mk (HX.out.below hb)); (try replace HY := Aside0.mk (HY.out.below hb)); (try replace HQ := Aside0.mk (HQ.out.below hb)); (try replace HJ := Aside0.mk (HJ.out.below hb)); (try replace HC := Aside0.mk (HC.out.below hb)); replace HB := Aside0.mk (bthen HB.out hb); clear hb))
    | (go_at_call 60; ((with_reducible refine (impl_FlowSum vs s _ _ HS.out).mono ?_); rintro e w' ⟨vq, rfl, hr, hb⟩; (try replace HS := Aside0.mk (HS.out.below hb)); (try replace HX := Aside0.mk (HX.out.below hb)); (try replace HY := Aside0.mk (HY.out.below hb)); (try replace HQ := Aside0.mk (HQ.out.below hb)); (try replace HJ := Aside0.mk (HJ.out.below hb)); (try replace HC := Aside0.mk (HC.out.below hb)); replace HB := Aside0.mk (bthen HB.out hb); have HQ := Aside0.mk (Sl.of_R hr); clear hr hb))
    | (go_at_call 61; ((with_reducible refine (impl_FlowJoin vs vx s (flowEach s how) _ HS.out HX.out).mono ?_); rintro e w' ⟨vj, rfl, hr, hb⟩; (try replace HS := Aside0.mk (HS.out.below hb)); (try replace HX := Aside0.mk (HX.out.below hb)); (try replace HY := Aside0.mk (HY.out.below hb)); (try replace HQ := Aside0.mk (HQ.out.below hb)); (try replace HJ := Aside0.mk (HJ.out.below hb)); (try replace HC := Aside0.mk (HC.out.below hb)); replace HB := Aside0.mk (bthen HB.out hb); have HJ := Aside0.mk (Sl.of_R hr); clear hr hb))
    | (go_at_call 62; ((with_reducible refine (impl_BatchBoth vs vx s (flowEach s how) _ HS.out HX.out).mono ?_); rintro e w' ⟨vb, rfl, hr, hb⟩; (try replace HS := Aside0.mk (HS.out.below hb)); (try replace HX := Aside0.mk (HX.out.below hb)); (try replace HY := Aside0.mk (HY.out.below hb)); (try replace HQ := Aside0.mk (HQ.out.below hb)); (try replace HJ := Aside0.mk (HJ.out.below hb)); (try replace HC := Aside0.mk (HC.out.below hb)); replace HB := Aside0.mk (bthen HB.out hb); have HC := Aside0.mk (Sl.of_R hr); clear hr hb))
    | (go_at_call 59; ((with_reducible refine (impl_BatchOk vx (flowEach s how) _ HX.out).mono ?_); rintro e w' ⟨rfl, hb⟩; (try replace HS := Aside0.mk (HS.out.below hb)); (try replace HX := Aside0.mk (HX.out.below hb)); (try replace HY := Aside0.mk (HY.out.below hb)); (try replace HQ := Aside0.mk (HQ.out.below hb)); (try replace HJ := Aside0.mk (HJ.out.below hb)); (try replace HC := Aside0.mk (HC.out.below hb)); replace HB := Aside0.mk (bthen HB.out hb); clear hb))
    | (go_at_call 59; ((with_reducible refine (impl_BatchOk vq (flowSum s _) _ HQ.out).mono ?_); rintro e w' ⟨rfl, hb⟩; (try replace HS := Aside0.mk (HS.out.below hb)); (try replace HX := Aside0.mk (HX.out.below hb)); (try replace HY := Aside0.mk (HY.out.below hb)); (try replace HQ := Aside0.mk (HQ.out.below hb)); (try replace HJ := Aside0.mk (HJ.out.below hb)); (try replace HC := Aside0.mk (HC.out.below hb)); replace HB := Aside0.mk (bthen HB.out hb); clear hb))
    | (go_at_call 59; ((with_reducible refine (impl_BatchOk vj (flowJoin s (flowEach s how)) _ HJ.out).mono ?_); rintro e w' ⟨rfl, hb⟩; (try replace HS := Aside0.mk (HS.out.below hb)); (try replace HX := Aside0.mk (HX.out.below hb)); (try replace HY := Aside0.mk (HY.out.below hb)); (try replace HQ := Aside0.mk (HQ.out.below hb)); (try replace HJ := Aside0.mk (HJ.out.below hb)); (try replace HC := Aside0.mk (HC.out.below hb)); replace HB := Aside0.mk (bthen HB.out hb); clear hb))
    | (go_at_call 59; ((with_reducible refine (impl_BatchOk vb (batchBoth s (flowEach s how)) _ HC.out).mono ?_); rintro e w' ⟨rfl, hb⟩; (try replace HS := Aside0.mk (HS.out.below hb)); (try replace HX := Aside0.mk (HX.out.below hb)); (try replace HY := Aside0.mk (HY.out.below hb)); (try replace HQ := Aside0.mk (HQ.out.below hb)); (try replace HJ := Aside0.mk (HJ.out.below hb)); (try replace HC := Aside0.mk (HC.out.below hb)); replace HB := Aside0.mk (bthen HB.out hb); clear hb)))
  go_ret
  exact RetV.mk rfl HB.out
end Go.Proofs.Ythljcnlmeefcjaa.X

