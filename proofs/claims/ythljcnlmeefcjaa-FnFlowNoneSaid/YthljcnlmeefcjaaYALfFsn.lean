/- The walk of the law on sums of nothing. Conditions: none. -/
import Derived.Test.YthljcnlmeefcjaaYADrFs
import Derived.Test.YthljcnlmeefcjaaYAPlH
import Derived.Test.YthljcnlmeefcjaaYAFs3
import Derived.Test.YthljcnlmeefcjaaYALw
import Derived.Test.YthljcnlmeefcjaaYABytes
import Derived.Test.YthljcnlmeefcjaaYAFl
import Derived.RegionTactic
import Derived.BigRegion
namespace Go.Proofs.Ythljcnlmeefcjaa.X
open Go.RowKit Go.Proofs.YthljcnlmeefcjaaW.PrintWords
set_option linter.unusedVariables false
set_option linter.unusedSimpArgs false

theorem few_of {s : List Rw} (hs : rowsOk s = true) (hl : s.length ≤ 11) (hd : ∀ r ∈ s, dOk r) : FewR 33 11 s := by
  obtain ⟨h1, h2⟩ := rowsOk_all hs
  have hm : X.mass s ≤ 3 * s.length := mass_le (c := 3) fun r hr => by
    have h3 := hd r hr
    have h4 := rowOk_in (h2 r hr)
    unfold dOk at h3
    omega
  exact ⟨by omega, hl, h2⟩
set_option maxRecDepth 100000 in
set_option maxHeartbeats 4000000 in
theorem laws_FnFlowNone (v : Value) (l : List Int) (w : World) (h : IsBytes w v l) : Calls Try.prog 16 #[v] w (RetV w (.bool true)) := by
  have H := Aside0.mk h
  obtain ⟨⟨A, c, rfl, hc, hr⟩, hb⟩ := h
  have hm := Kd.C_max hr
  clear hr hb
  have HB := Aside0.mk (Below.refl w.heap.size w)
  go_enter Try.func16, Try.ntmps16
  by_cases hl : 1048576 < l.length
  · have hl' : (l.length : Int) > 1048576 := by omega
    go_wp2
    go_ret
    exact RetV.mk rfl HB.out
  have hl' : ¬ (l.length : Int) > 1048576 := by omega
  go_upto_region 4 with (go_at_call 69; ((with_reducible refine (spec_DrawFlowSum (.slice A l.length c) l w H.out.sl H.out.by_).mono ?_); rintro e wa ⟨vs, s, kind, rfl, h1, h2, h3, h4, h5⟩; have HS := Aside0.mk h1; have DD := Aside0.mk h3; replace HB := Aside0.mk h5; clear h1 h3 h4 h5))
  have q0 : decide (flowSum s kind = flowSum s kind) = true := decide_eq_true rfl
  cases hs : rowsOk s
  · go_wp2_with (first
      | (go_at_call 60; ((with_reducible refine (impl_FlowSum vs s kind _ HS.out).mono ?_); rintro e w' ⟨vx, rfl, hr, hb⟩; (try replace HS := Aside0.mk (HS.out.below hb)); (try replace HX := Aside0.mk (HX.out.below hb)); (try replace HY := Aside0.mk (HY.out.below hb)); replace HB := Aside0.mk (bthen HB.out hb); have HX := Aside0.mk (Sl.of_R hr); clear hr hb))
      | (go_at_call 70; ((with_reducible refine (spec_FlowSum vs s kind _ HS.out).mono ?_); rintro e w' ⟨vy, rfl, hr, hb⟩; (try replace HS := Aside0.mk (HS.out.below hb)); (try replace HX := Aside0.mk (HX.out.below hb)); (try replace HY := Aside0.mk (HY.out.below hb)); replace HB := Aside0.mk (bthen HB.out hb); have HY := Aside0.mk hr; clear hr hb))
      | (go_at_call 57; ((with_reducible refine (laws_lwRows vx vy (flowSum s kind) (flowSum s kind) _ HX.out HY.out).mono ?_); rintro e w' ⟨rfl, hb⟩; (try replace HS := Aside0.mk (HS.out.below hb)); (try replace HX := Aside0.mk (HX.out.below hb)); (try replace HY := Aside0.mk (HY.out.below hb)); replace HB := Aside0.mk (bthen HB.out hb); clear hb))
      | (go_at_call 71; ((with_reducible refine (spec_RowsOk vs s _ HS.out).mono ?_); rintro e w' ⟨rfl, hb⟩; (try replace HS := Aside0.mk (HS.out.below hb)); (try replace HX := Aside0.mk (HX.out.below hb)); (try replace HY := Aside0.mk (HY.out.below hb)); replace HB := Aside0.mk (bthen HB.out hb); clear hb)))
    go_ret
    exact RetV.mk rfl HB.out
  · have K3 := Aside0.mk (less_none hs (few_of hs h2 DD.out) (by omega) (by omega))
    have K4 := Aside0.mk (flowSum_nil kind)
    have K5 := Aside0.mk (flowJoin_nil s)
    go_upto_region 7 with (first
      | (go_at_call 60; ((with_reducible refine (impl_FlowSum vs s kind _ HS.out).mono ?_); rintro e w' ⟨vx, rfl, hr, hb⟩; (try replace HS := Aside0.mk (HS.out.below hb)); (try replace HX := Aside0.mk (HX.out.below hb)); (try replace HY := Aside0.mk (HY.out.below hb)); replace HB := Aside0.mk (bthen HB.out hb); have HX := Aside0.mk (Sl.of_R hr); clear hr hb))
      | (go_at_call 70; ((with_reducible refine (spec_FlowSum vs s kind _ HS.out).mono ?_); rintro e w' ⟨vy, rfl, hr, hb⟩; (try replace HS := Aside0.mk (HS.out.below hb)); (try replace HX := Aside0.mk (HX.out.below hb)); (try replace HY := Aside0.mk (HY.out.below hb)); replace HB := Aside0.mk (bthen HB.out hb); have HY := Aside0.mk hr; clear hr hb))
      | (go_at_call 57; ((with_reducible refine (laws_lwRows vx vy (flowSum s kind) (flowSum s kind) _ HX.out HY.out).mono ?_); rintro e w' ⟨rfl, hb⟩; (try replace HS := Aside0.mk (HS.out.below hb)); (try replace HX := Aside0.mk (HX.out.below hb)); (try replace HY := Aside0.mk (HY.out.below hb)); replace HB := Aside0.mk (bthen HB.out hb); clear hb))
      | (go_at_call 71; ((with_reducible refine (spec_RowsOk vs s _ HS.out).mono ?_); rintro e w' ⟨rfl, hb⟩; (try replace HS := Aside0.mk (HS.out.below hb)); (try replace HX := Aside0.mk (HX.out.below hb)); (try replace HY := Aside0.mk (HY.out.below hb)); replace HB := Aside0.mk (bthen HB.out hb); clear hb)))
    clear HX HY q0
    go_wp2_with (first
      | (go_at_call 87; ((with_reducible refine (impl_BatchLess vs s _ HS.out).mono ?_); rintro e w' ⟨vl, rfl, hr, hb⟩; (try replace HS := Aside0.mk (HS.out.below hb)); (try replace HL := Aside0.mk (HL.out.below hb)); replace HB := Aside0.mk (bthen HB.out hb); have HL := Aside0.mk (Sl.of_R hr); clear hr hb))
      | (go_at_call 62; ((with_reducible refine (impl_BatchBoth vs vl s (batchLess s) _ HS.out HL.out).mono ?_); rintro e w' ⟨vq, rfl, hr, hb⟩; rw [K3.out] at hr; (try replace HS := Aside0.mk (HS.out.below hb)); (try replace HL := Aside0.mk (HL.out.below hb)); replace HB := Aside0.mk (bthen HB.out hb); obtain ⟨A6, c6, rfl, _, _⟩ := Sl.of_R hr; have HQ : Aside0 (Sl kRw w' (.slice A6 0 c6) []) := ⟨Sl.of_R hr⟩; clear hr hb))
      | (go_at_call 60; ((with_reducible refine (impl_FlowSum (.slice A6 0 c6) [] kind _ HQ.out).mono ?_); rintro e w' ⟨vq, rfl, hr, hb⟩; rw [K4.out] at hr; (try replace HS := Aside0.mk (HS.out.below hb)); (try replace HL := Aside0.mk (HL.out.below hb)); replace HB := Aside0.mk (bthen HB.out hb); (try replace HQ := Aside0.mk (HQ.out.below hb)); obtain ⟨A7, c7, rfl, _, _⟩ := Sl.of_R hr; clear hr hb))
      | (go_at_call 61; ((with_reducible refine (impl_FlowJoin vs (.slice A6 0 c6) s [] _ HS.out HQ.out).mono ?_); rintro e w' ⟨vq, rfl, hr, hb⟩; rw [K5.out] at hr; (try replace HS := Aside0.mk (HS.out.below hb)); (try replace HL := Aside0.mk (HL.out.below hb)); replace HB := Aside0.mk (bthen HB.out hb); obtain ⟨A8, c8, rfl, _, _⟩ := Sl.of_R hr; clear hr hb)))
    go_ret
    exact RetV.mk rfl HB.out
end Go.Proofs.Ythljcnlmeefcjaa.X

