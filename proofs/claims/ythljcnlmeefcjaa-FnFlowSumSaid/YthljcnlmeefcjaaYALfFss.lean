/- The walk of the law on changes of sums. Conditions: none. -/
import Derived.Test.YthljcnlmeefcjaaYADrFs
import Derived.Test.YthljcnlmeefcjaaYAPlH
import Derived.Test.YthljcnlmeefcjaaYAFs3
import Derived.Test.YthljcnlmeefcjaaYALw
import Derived.Test.YthljcnlmeefcjaaYABytes
import Derived.Test.YthljcnlmeefcjaaYAFt
import Derived.Test.YthljcnlmeefcjaaYALwS
import Derived.RegionTactic
import Derived.BigRegion
namespace Go.Proofs.Ythljcnlmeefcjaa.X
open Go.RowKit Go.Proofs.YthljcnlmeefcjaaW.PrintWords
set_option linter.unusedVariables false
set_option linter.unusedSimpArgs false

set_option maxRecDepth 100000 in
set_option maxHeartbeats 4000000 in
theorem laws_FnFlowSum (v : Value) (l : List Int) (w : World) (h : IsBytes w v l) : Calls Try.prog 19 #[v] w (RetV w (.bool true)) := by
  have H := Aside0.mk h
  obtain ⟨⟨A, c, rfl, hc, hr⟩, hb⟩ := h
  have hm := Kd.C_max hr
  clear hr hb
  have HB := Aside0.mk (Below.refl w.heap.size w)
  go_enter Try.func19, Try.ntmps19
  by_cases hl : 1048576 < l.length
  · have hl' : (l.length : Int) > 1048576 := by omega
    go_wp2
    go_ret
    exact RetV.mk rfl HB.out
  have hl' : ¬ (l.length : Int) > 1048576 := by omega
  go_upto_region 4 with (go_at_call 69; ((with_reducible refine (spec_DrawFlowSum (.slice A l.length c) l w H.out.sl H.out.by_).mono ?_); rintro e wa ⟨vs, s, kind, rfl, h1, h2, h3, h4, h5⟩; have HS := Aside0.mk h1; have DS := Aside0.mk h3; replace HB := Aside0.mk h5; clear h1 h3 h4 h5))
  have q0 : decide (flowSum s kind = flowSum s kind) = true := decide_eq_true rfl
  cases hs : rowsOk s
  · go_wp2_with (first
      | (go_at_call 60; ((with_reducible refine (impl_FlowSum vs s kind _ HS.out).mono ?_); rintro e w' ⟨vx, rfl, hr, hb⟩; (try replace HS := Aside0.mk (HS.out.below hb)); (try replace HX := Aside0.mk (HX.out.below hb)); (try replace HY := Aside0.mk (HY.out.below hb)); replace HB := Aside0.mk (bthen HB.out hb); have HX := Aside0.mk (Sl.of_R hr); clear hr hb))
      | (go_at_call 70; ((with_reducible refine (spec_FlowSum vs s kind _ HS.out).mono ?_); rintro e w' ⟨vy, rfl, hr, hb⟩; (try replace HS := Aside0.mk (HS.out.below hb)); (try replace HX := Aside0.mk (HX.out.below hb)); (try replace HY := Aside0.mk (HY.out.below hb)); replace HB := Aside0.mk (bthen HB.out hb); have HY := Aside0.mk hr; clear hr hb))
      | (go_at_call 57; ((with_reducible refine (laws_lwRows vx vy (flowSum s kind) (flowSum s kind) _ HX.out HY.out).mono ?_); rintro e w' ⟨rfl, hb⟩; (try replace HS := Aside0.mk (HS.out.below hb)); (try replace HX := Aside0.mk (HX.out.below hb)); (try replace HY := Aside0.mk (HY.out.below hb)); replace HB := Aside0.mk (bthen HB.out hb); clear hb))
      | (go_at_call 71; ((with_reducible refine (spec_RowsOk vs s _ HS.out).mono ?_); rintro e w' ⟨rfl, hb⟩; (try replace HS := Aside0.mk (HS.out.below hb)); (try replace HX := Aside0.mk (HX.out.below hb)); (try replace HY := Aside0.mk (HY.out.below hb)); replace HB := Aside0.mk (bthen HB.out hb); clear hb)))
    go_ret
    exact RetV.mk rfl HB.out
  · have K2 := Aside0.mk (flowSum_at (kind := kind) hs (show s.length ≤ 12 by omega))
    have HOK := Aside0.mk allTm_ok
    go_upto_region 8 with (first
      | (go_at_call 60; ((with_reducible refine (impl_FlowSum vs s kind _ HS.out).mono ?_); rintro e w' ⟨vx, rfl, hr, hb⟩; (try replace HS := Aside0.mk (HS.out.below hb)); (try replace HX := Aside0.mk (HX.out.below hb)); (try replace HY := Aside0.mk (HY.out.below hb)); (try replace HA := Aside0.mk (HA.out.below hb)); replace HB := Aside0.mk (bthen HB.out hb); have HX := Aside0.mk (Sl.of_R hr); clear hr hb))
      | (go_at_call 70; ((with_reducible refine (spec_FlowSum vs s kind _ HS.out).mono ?_); rintro e w' ⟨vy, rfl, hr, hb⟩; (try replace HS := Aside0.mk (HS.out.below hb)); (try replace HX := Aside0.mk (HX.out.below hb)); (try replace HY := Aside0.mk (HY.out.below hb)); (try replace HA := Aside0.mk (HA.out.below hb)); replace HB := Aside0.mk (bthen HB.out hb); have HY := Aside0.mk hr; clear hr hb))
      | (go_at_call 57; ((with_reducible refine (laws_lwRows vx vy (flowSum s kind) (flowSum s kind) _ HX.out HY.out).mono ?_); rintro e w' ⟨rfl, hb⟩; (try replace HS := Aside0.mk (HS.out.below hb)); (try replace HX := Aside0.mk (HX.out.below hb)); (try replace HY := Aside0.mk (HY.out.below hb)); (try replace HA := Aside0.mk (HA.out.below hb)); replace HB := Aside0.mk (bthen HB.out hb); clear hb))
      | (go_at_call 71; ((with_reducible refine (spec_RowsOk vs s _ HS.out).mono ?_); rintro e w' ⟨rfl, hb⟩; (try replace HS := Aside0.mk (HS.out.below hb)); (try replace HX := Aside0.mk (HX.out.below hb)); (try replace HY := Aside0.mk (HY.out.below hb)); (try replace HA := Aside0.mk (HA.out.below hb)); replace HB := Aside0.mk (bthen HB.out hb); clear hb))
      | (go_at_call 89; ((with_reducible refine (laws_lwAll _).mono ?_); rintro e w' ⟨va, rfl, hr, hb⟩; (try replace HS := Aside0.mk (HS.out.below hb)); (try replace HX := Aside0.mk (HX.out.below hb)); (try replace HY := Aside0.mk (HY.out.below hb)); (try replace HA := Aside0.mk (HA.out.below hb)); replace HB := Aside0.mk (bthen HB.out hb); have HA := Aside0.mk (Sl.of_R hr); clear hr hb)))
    clear HY
    obtain ⟨A3, c3, rfl, hc3, hC3⟩ := HA.out
    have hm3 := Kd.C_max hC3
    clear hC3
    generalize allTm = all at *
    generalize flowSum s kind = x at *
    go_wp2
    go_loopw [7] (fun i wr => ∃ k : Nat, k ≤ all.length ∧ i = .int .i64 k ∧ Aside0 (Sl kRw wr vx x) ∧ Aside0 (Sl kRw wr vs s) ∧ Aside0 (Sl kTm wr (.slice A3 all.length c3) all) ∧ Aside0 (Below w.heap.size w wr)) (fun i _ => all.length - (intOf i).toNat)
    case atStart => exact ⟨0, Nat.zero_le _, rfl, HX, HS, HA, HB⟩
    case round =>
      clear HX HS HA HB
      obtain ⟨k, hk, rfl, HX, HS, HA, HB⟩ := hrel
      by_cases hlt : k < all.length
      · obtain ⟨A4, c4, e4, hc4, hC4⟩ := HA.out
        cases e4
        obtain ⟨ad, y, e, HY, h0, h1⟩ := rdTm hC4 (Below.refl _ _) hlt
        cases e
        have hy := K2.out y (HOK.out y (List.mem_of_getElem? HY.out))
        have q1 := decide_eq_true hy
        clear hC4 hy
        have d0 : wr.drew.cell? (ad.add (k * 2)) = some (.int .i64 y.f0) := h0
        have d1 : wr.drew.cell? ⟨(ad.add (k * 2)).block, (ad.add (k * 2)).off + 1, none⟩ = some (.int .i64 y.f1) := h1
        replace HX := Aside0.mk (HX.out.below (below_drew (Below.refl _ _)))
        replace HS := Aside0.mk (HS.out.below (below_drew (Below.refl _ _)))
        replace HA := Aside0.mk (HA.out.below (below_drew (Below.refl _ _)))
        replace HB := Aside0.mk (below_drew HB.out)
        go_upto_region 11 with fail
        go_region_held3 (fun w' => w'.cell? (ad.add (k * 2)) = some (.int .i64 y.f0) ∧ w'.cell? ⟨(ad.add (k * 2)).block, (ad.add (k * 2)).off + 1, none⟩ = some (.int .i64 y.f1)) (first | exact ⟨h0, h1⟩ | exact ⟨d0, d1⟩)
          (first
          | (go_at_call 90; ((with_reducible refine (impl_BatchAt vx x y _ HX.out).mono ?_); rintro e w' ⟨vb, rfl, hr, hb⟩; (try replace HX := Aside0.mk (HX.out.below hb)); (try replace HS := Aside0.mk (HS.out.below hb)); (try replace HA := Aside0.mk (HA.out.below hb)); (try replace HC := Aside0.mk (HC.out.below hb)); (try replace HD := Aside0.mk (HD.out.below hb)); (try replace HF := Aside0.mk (HF.out.below hb)); replace d0 := pw_cell_below hb d0; replace d1 := pw_cell_below hb d1; replace HB := Aside0.mk (bthen HB.out hb); have HC := Aside0.mk (Sl.of_R hr); clear hr hb))
          | (go_at_call 90; ((with_reducible refine (impl_BatchAt vs s y _ HS.out).mono ?_); rintro e w' ⟨vc, rfl, hr, hb⟩; (try replace HX := Aside0.mk (HX.out.below hb)); (try replace HS := Aside0.mk (HS.out.below hb)); (try replace HA := Aside0.mk (HA.out.below hb)); (try replace HC := Aside0.mk (HC.out.below hb)); (try replace HD := Aside0.mk (HD.out.below hb)); (try replace HF := Aside0.mk (HF.out.below hb)); replace d0 := pw_cell_below hb d0; replace d1 := pw_cell_below hb d1; replace HB := Aside0.mk (bthen HB.out hb); have HD := Aside0.mk (Sl.of_R hr); clear hr hb))
          | (go_at_call 92; ((with_reducible refine (laws_lwSum vc (batchAt s y) kind _ HD.out).mono ?_); rintro e w' ⟨ve, rfl, hr, hb⟩; (try replace HX := Aside0.mk (HX.out.below hb)); (try replace HS := Aside0.mk (HS.out.below hb)); (try replace HA := Aside0.mk (HA.out.below hb)); (try replace HC := Aside0.mk (HC.out.below hb)); (try replace HD := Aside0.mk (HD.out.below hb)); (try replace HF := Aside0.mk (HF.out.below hb)); replace d0 := pw_cell_below hb d0; replace d1 := pw_cell_below hb d1; replace HB := Aside0.mk (bthen HB.out hb); have HF := Aside0.mk (Sl.of_R hr); clear hr hb))
          | (go_at_call 82; ((with_reducible refine (laws_lwItems vb ve (batchAt x y) (lwSum (batchAt s y) kind) _ HC.out HF.out).mono ?_); rintro e w' ⟨rfl, hb⟩; (try replace HX := Aside0.mk (HX.out.below hb)); (try replace HS := Aside0.mk (HS.out.below hb)); (try replace HA := Aside0.mk (HA.out.below hb)); (try replace HC := Aside0.mk (HC.out.below hb)); (try replace HD := Aside0.mk (HD.out.below hb)); (try replace HF := Aside0.mk (HF.out.below hb)); replace d0 := pw_cell_below hb d0; replace d1 := pw_cell_below hb d1; replace HB := Aside0.mk (bthen HB.out hb); clear hb)))
        go_wp2
        go_roundw
        case rel => exact ⟨k + 1, by omega, by go_num, HX, HS, HA, HB⟩
        case measure => simp [intOf]; omega
      · go_wp2
        go_ret
        exact RetV.mk rfl HB.out
end Go.Proofs.Ythljcnlmeefcjaa.X

