/- The walk of the law on sums of sums. Conditions: none. -/
import Derived.Test.YthljcnlmeefcjaaYADrFs
import Derived.Test.YthljcnlmeefcjaaYAPlH
import Derived.Test.YthljcnlmeefcjaaYAFs3
import Derived.Test.YthljcnlmeefcjaaYALw
import Derived.Test.YthljcnlmeefcjaaYABytes
import Derived.RegionTactic
import Derived.BigRegion
namespace Go.Proofs.Ythljcnlmeefcjaa.X
open Go.RowKit Go.Proofs.YthljcnlmeefcjaaW.PrintWords
set_option linter.unusedVariables false
set_option linter.unusedSimpArgs false

set_option maxRecDepth 100000 in
set_option maxHeartbeats 4000000 in
theorem laws_FnFlowOnce (v : Value) (l : List Int) (w : World) (h : IsBytes w v l) : Calls Try.prog 10 #[v] w (RetV w (.bool true)) := by
  have H := Aside0.mk h
  obtain ⟨⟨A, c, rfl, hc, hr⟩, hb⟩ := h
  have hm := Kd.C_max hr
  clear hr hb
  have HB := Aside0.mk (Below.refl w.heap.size w)
  go_enter Try.func10, Try.ntmps10
  by_cases hl : 1048576 < l.length
  · have hl' : (l.length : Int) > 1048576 := by omega
    go_wp2
    go_ret
    exact RetV.mk rfl HB.out
  have hl' : ¬ (l.length : Int) > 1048576 := by omega
  go_upto_region 4 with (go_at_call 69; ((with_reducible refine (spec_DrawFlowSum (.slice A l.length c) l w H.out.sl H.out.by_).mono ?_); rintro e wa ⟨vs, s, kind, rfl, h1, h2, h3, h4, h5⟩; have HS := Aside0.mk h1; have DS := Aside0.mk h3; replace HB := Aside0.mk h5; clear h1 h3 h4 h5))
  have q0 : decide (flowSum s kind = flowSum s kind) = true := decide_eq_true rfl
  cases hs : rowsOk s
  · go_wp2_with (first
      | (go_at_call 60; ((with_reducible refine (impl_FlowSum vs s kind _ HS.out).mono ?_); rintro e w' ⟨vx, rfl, hr, hb⟩; (try replace HS := Aside0.mk (HS.out.below hb)); (try replace HX := Aside0.mk (HX.out.below hb)); (try replace HY := Aside0.mk (HY.out.below hb)); replace HB := Aside0.mk (bthen HB.out hb); have HX := Aside0.mk (Sl.of_R hr); clear hr hb))
      | (go_at_call 70; ((with_reducible refine (spec_FlowSum vs s kind _ HS.out).mono ?_); rintro e w' ⟨vy, rfl, hr, hb⟩; (try replace HS := Aside0.mk (HS.out.below hb)); (try replace HX := Aside0.mk (HX.out.below hb)); (try replace HY := Aside0.mk (HY.out.below hb)); replace HB := Aside0.mk (bthen HB.out hb); have HY := Aside0.mk hr; clear hr hb))
      | (go_at_call 57; ((with_reducible refine (laws_lwRows vx vy (flowSum s kind) (flowSum s kind) _ HX.out HY.out).mono ?_); rintro e w' ⟨rfl, hb⟩; (try replace HS := Aside0.mk (HS.out.below hb)); (try replace HX := Aside0.mk (HX.out.below hb)); (try replace HY := Aside0.mk (HY.out.below hb)); replace HB := Aside0.mk (bthen HB.out hb); clear hb))
      | (go_at_call 71; ((with_reducible refine (spec_RowsOk vs s _ HS.out).mono ?_); rintro e w' ⟨rfl, hb⟩; (try replace HS := Aside0.mk (HS.out.below hb)); (try replace HX := Aside0.mk (HX.out.below hb)); (try replace HY := Aside0.mk (HY.out.below hb)); replace HB := Aside0.mk (bthen HB.out hb); clear hb)))
    go_ret
    exact RetV.mk rfl HB.out
  · obtain ⟨k1, k2, k3⟩ := flowSum_once hs (show s.length ≤ 12 by omega)
    have q1 := decide_eq_true k1
    have q2 := decide_eq_true k2
    have q3 := decide_eq_true k3
    clear k1 k2 k3
    go_upto_region 7 with (first
      | (go_at_call 60; ((with_reducible refine (impl_FlowSum vs s kind _ HS.out).mono ?_); rintro e w' ⟨vx, rfl, hr, hb⟩; (try replace HS := Aside0.mk (HS.out.below hb)); (try replace HX := Aside0.mk (HX.out.below hb)); (try replace HY := Aside0.mk (HY.out.below hb)); replace HB := Aside0.mk (bthen HB.out hb); have HX := Aside0.mk (Sl.of_R hr); clear hr hb))
      | (go_at_call 70; ((with_reducible refine (spec_FlowSum vs s kind _ HS.out).mono ?_); rintro e w' ⟨vy, rfl, hr, hb⟩; (try replace HS := Aside0.mk (HS.out.below hb)); (try replace HX := Aside0.mk (HX.out.below hb)); (try replace HY := Aside0.mk (HY.out.below hb)); replace HB := Aside0.mk (bthen HB.out hb); have HY := Aside0.mk hr; clear hr hb))
      | (go_at_call 57; ((with_reducible refine (laws_lwRows vx vy (flowSum s kind) (flowSum s kind) _ HX.out HY.out).mono ?_); rintro e w' ⟨rfl, hb⟩; (try replace HS := Aside0.mk (HS.out.below hb)); (try replace HX := Aside0.mk (HX.out.below hb)); (try replace HY := Aside0.mk (HY.out.below hb)); replace HB := Aside0.mk (bthen HB.out hb); clear hb))
      | (go_at_call 71; ((with_reducible refine (spec_RowsOk vs s _ HS.out).mono ?_); rintro e w' ⟨rfl, hb⟩; (try replace HS := Aside0.mk (HS.out.below hb)); (try replace HX := Aside0.mk (HX.out.below hb)); (try replace HY := Aside0.mk (HY.out.below hb)); replace HB := Aside0.mk (bthen HB.out hb); clear hb)))
    clear HX HY q0
    go_wp2_with (first
      | (go_at_call 60; ((with_reducible refine (impl_FlowSum vs s 2 _ HS.out).mono ?_); rintro e w' ⟨vo, rfl, hr, hb⟩; (try replace HS := Aside0.mk (HS.out.below hb)); (try replace HO := Aside0.mk (HO.out.below hb)); (try replace HL := Aside0.mk (HL.out.below hb)); (try replace HOO := Aside0.mk (HOO.out.below hb)); (try replace HOL := Aside0.mk (HOL.out.below hb)); (try replace HLL := Aside0.mk (HLL.out.below hb)); replace HB := Aside0.mk (bthen HB.out hb); have HO := Aside0.mk (Sl.of_R hr); clear hr hb))
      | (go_at_call 60; ((with_reducible refine (impl_FlowSum vs s 3 _ HS.out).mono ?_); rintro e w' ⟨vl, rfl, hr, hb⟩; (try replace HS := Aside0.mk (HS.out.below hb)); (try replace HO := Aside0.mk (HO.out.below hb)); (try replace HL := Aside0.mk (HL.out.below hb)); (try replace HOO := Aside0.mk (HOO.out.below hb)); (try replace HOL := Aside0.mk (HOL.out.below hb)); (try replace HLL := Aside0.mk (HLL.out.below hb)); replace HB := Aside0.mk (bthen HB.out hb); have HL := Aside0.mk (Sl.of_R hr); clear hr hb))
      | (go_at_call 60; ((with_reducible refine (impl_FlowSum vo (flowSum s 2) 2 _ HO.out).mono ?_); rintro e w' ⟨voo, rfl, hr, hb⟩; (try replace HS := Aside0.mk (HS.out.below hb)); (try replace HO := Aside0.mk (HO.out.below hb)); (try replace HL := Aside0.mk (HL.out.below hb)); (try replace HOO := Aside0.mk (HOO.out.below hb)); (try replace HOL := Aside0.mk (HOL.out.below hb)); (try replace HLL := Aside0.mk (HLL.out.below hb)); replace HB := Aside0.mk (bthen HB.out hb); have HOO := Aside0.mk (Sl.of_R hr); clear hr hb))
      | (go_at_call 60; ((with_reducible refine (impl_FlowSum vo (flowSum s 2) 3 _ HO.out).mono ?_); rintro e w' ⟨vol, rfl, hr, hb⟩; (try replace HS := Aside0.mk (HS.out.below hb)); (try replace HO := Aside0.mk (HO.out.below hb)); (try replace HL := Aside0.mk (HL.out.below hb)); (try replace HOO := Aside0.mk (HOO.out.below hb)); (try replace HOL := Aside0.mk (HOL.out.below hb)); (try replace HLL := Aside0.mk (HLL.out.below hb)); replace HB := Aside0.mk (bthen HB.out hb); have HOL := Aside0.mk (Sl.of_R hr); clear hr hb))
      | (go_at_call 60; ((with_reducible refine (impl_FlowSum vl (flowSum s 3) 3 _ HL.out).mono ?_); rintro e w' ⟨vll, rfl, hr, hb⟩; (try replace HS := Aside0.mk (HS.out.below hb)); (try replace HO := Aside0.mk (HO.out.below hb)); (try replace HL := Aside0.mk (HL.out.below hb)); (try replace HOO := Aside0.mk (HOO.out.below hb)); (try replace HOL := Aside0.mk (HOL.out.below hb)); (try replace HLL := Aside0.mk (HLL.out.below hb)); replace HB := Aside0.mk (bthen HB.out hb); have HLL := Aside0.mk (Sl.of_R hr); clear hr hb))
      | (go_at_call 57; ((with_reducible refine (laws_lwRows voo vo (flowSum (flowSum s 2) 2) (flowSum s 2) _ HOO.out HO.out).mono ?_); rintro e w' ⟨rfl, hb⟩; (try replace HS := Aside0.mk (HS.out.below hb)); (try replace HO := Aside0.mk (HO.out.below hb)); (try replace HL := Aside0.mk (HL.out.below hb)); (try replace HOO := Aside0.mk (HOO.out.below hb)); (try replace HOL := Aside0.mk (HOL.out.below hb)); (try replace HLL := Aside0.mk (HLL.out.below hb)); replace HB := Aside0.mk (bthen HB.out hb); clear hb))
      | (go_at_call 57; ((with_reducible refine (laws_lwRows vol vl (flowSum (flowSum s 2) 3) (flowSum s 3) _ HOL.out HL.out).mono ?_); rintro e w' ⟨rfl, hb⟩; (try replace HS := Aside0.mk (HS.out.below hb)); (try replace HO := Aside0.mk (HO.out.below hb)); (try replace HL := Aside0.mk (HL.out.below hb)); (try replace HOO := Aside0.mk (HOO.out.below hb)); (try replace HOL := Aside0.mk (HOL.out.below hb)); (try replace HLL := Aside0.mk (HLL.out.below hb)); replace HB := Aside0.mk (bthen HB.out hb); clear hb))
      | (go_at_call 57; ((with_reducible refine (laws_lwRows vll vl (flowSum (flowSum s 3) 3) (flowSum s 3) _ HLL.out HL.out).mono ?_); rintro e w' ⟨rfl, hb⟩; (try replace HS := Aside0.mk (HS.out.below hb)); (try replace HO := Aside0.mk (HO.out.below hb)); (try replace HL := Aside0.mk (HL.out.below hb)); (try replace HOO := Aside0.mk (HOO.out.below hb)); (try replace HOL := Aside0.mk (HOL.out.below hb)); (try replace HLL := Aside0.mk (HLL.out.below hb)); replace HB := Aside0.mk (bthen HB.out hb); clear hb)))
    go_ret
    exact RetV.mk rfl HB.out
end Go.Proofs.Ythljcnlmeefcjaa.X

