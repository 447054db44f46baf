/- The walk of the law on the times of sums. Conditions: none. -/
import Derived.Test.YthljcnlmeefcjaaYADrFs
import Derived.Test.YthljcnlmeefcjaaYAPlH
import Derived.Test.YthljcnlmeefcjaaYAFs3
import Derived.Test.YthljcnlmeefcjaaYALw
import Derived.Test.YthljcnlmeefcjaaYABytes
import Derived.RegionTactic
import Derived.BigRegion
namespace Go.Proofs.Ythljcnlmeefcjaa.X
open Go.RowKit Go.Proofs.YthljcnlmeefcjaaW.PrintWords
set_option linter.unusedVariables false
set_option linter.unusedSimpArgs false

set_option maxRecDepth 100000 in
set_option maxHeartbeats 4000000 in
theorem laws_FnFlowSumTimes (v : Value) (l : List Int) (w : World) (h : IsBytes w v l) : Calls Try.prog 11 #[v] w (RetV w (.bool true)) := by
  have H := Aside0.mk h
  obtain ⟨⟨A, c, rfl, hc, hr⟩, hb⟩ := h
  have hm := Kd.C_max hr
  clear hr hb
  have HB := Aside0.mk (Below.refl w.heap.size w)
  go_enter Try.func11, Try.ntmps11
  by_cases hl : 1048576 < l.length
  · have hl' : (l.length : Int) > 1048576 := by omega
    go_wp2
    go_ret
    exact RetV.mk rfl HB.out
  have hl' : ¬ (l.length : Int) > 1048576 := by omega
  go_upto_region 4 with (go_at_call 69; ((with_reducible refine (spec_DrawFlowSum (.slice A l.length c) l w H.out.sl H.out.by_).mono ?_); rintro e wa ⟨vs, s, kind, rfl, h1, h2, h3, h4, h5⟩; have HS := Aside0.mk h1; have DS := Aside0.mk h3; replace HB := Aside0.mk h5; clear h1 h3 h4 h5))
  have q0 : decide (flowSum s kind = flowSum s kind) = true := decide_eq_true rfl
  have K2 := Aside0.mk (@flowSum_times s kind)
  go_upto_region 7 with (first
    | (go_at_call 60; ((with_reducible refine (impl_FlowSum vs s kind _ HS.out).mono ?_); rintro e w' ⟨vx, rfl, hr, hb⟩; (try replace HS := Aside0.mk (HS.out.below hb)); (try replace HX := Aside0.mk (HX.out.below hb)); (try replace HY := Aside0.mk (HY.out.below hb)); replace HB := Aside0.mk (bthen HB.out hb); have HX := Aside0.mk (Sl.of_R hr); clear hr hb))
    | (go_at_call 70; ((with_reducible refine (spec_FlowSum vs s kind _ HS.out).mono ?_); rintro e w' ⟨vy, rfl, hr, hb⟩; (try replace HS := Aside0.mk (HS.out.below hb)); (try replace HX := Aside0.mk (HX.out.below hb)); (try replace HY := Aside0.mk (HY.out.below hb)); replace HB := Aside0.mk (bthen HB.out hb); have HY := Aside0.mk hr; clear hr hb))
    | (go_at_call 57; ((with_reducible refine (laws_lwRows vx vy (flowSum s kind) (flowSum s kind) _ HX.out HY.out).mono ?_); rintro e w' ⟨rfl, hb⟩; (try replace HS := Aside0.mk (HS.out.below hb)); (try replace HX := Aside0.mk (HX.out.below hb)); (try replace HY := Aside0.mk (HY.out.below hb)); replace HB := Aside0.mk (bthen HB.out hb); clear hb)))
  clear HY
  obtain ⟨A3, c3, rfl, hc3, hC3⟩ := HX.out
  have hm3 := Kd.C_max hC3
  clear hC3
  generalize flowSum s kind = x at *
  go_wp2
  go_loopw [6] (fun i wr => ∃ k : Nat, k ≤ x.length ∧ i = .int .i64 k ∧ Aside0 (Sl kRw wr (.slice A3 x.length c3) x) ∧ Aside0 (Sl kRw wr vs s) ∧ Aside0 (Below w.heap.size w wr)) (fun i _ => x.length - (intOf i).toNat)
  case atStart => exact ⟨0, Nat.zero_le _, rfl, HX, HS, HB⟩
  case round =>
    clear HX HS HB
    obtain ⟨k, hk, rfl, HX, HS, HB⟩ := hrel
    by_cases hlt : k < x.length
    · obtain ⟨A4, c4, e4, hc4, hC4⟩ := HX.out
      cases e4
      obtain ⟨ad, y, e, HY, h0, h1, h2, h3, h4⟩ := rdRw hC4 (Below.refl _ _) hlt
      cases e
      have q1 := decide_eq_true (K2.out y (List.mem_of_getElem? HY.out))
      clear hC4 h1 h4
      have d0 : wr.drew.cell? (ad.add (k * 5)) = some (.int .i64 y.f0) := h0
      have d2 : wr.drew.cell? ⟨(ad.add (k * 5)).block, (ad.add (k * 5)).off + 2, none⟩ = some (.int .i64 y.f2.f0) := h2
      have d3 : wr.drew.cell? ⟨(ad.add (k * 5)).block, (ad.add (k * 5)).off + 3, none⟩ = some (.int .i64 y.f2.f1) := h3
      replace HX := Aside0.mk (HX.out.below (below_drew (Below.refl _ _)))
      replace HS := Aside0.mk (HS.out.below (below_drew (Below.refl _ _)))
      replace HB := Aside0.mk (below_drew HB.out)
      go_upto_region 10 with fail
      go_region_held3 (fun w' => w'.cell? (ad.add (k * 5)) = some (.int .i64 y.f0) ∧ w'.cell? ⟨(ad.add (k * 5)).block, (ad.add (k * 5)).off + 2, none⟩ = some (.int .i64 y.f2.f0) ∧ w'.cell? ⟨(ad.add (k * 5)).block, (ad.add (k * 5)).off + 3, none⟩ = some (.int .i64 y.f2.f1)) (first | exact ⟨h0, h2, h3⟩ | exact ⟨d0, d2, d3⟩)
        (first
        | (go_at_call 73; ((with_reducible refine (impl_FlowTimes vs s y.f0 _ HS.out).mono ?_); rintro e w' ⟨vt, rfl, hr, hb⟩; (try replace HX := Aside0.mk (HX.out.below hb)); (try replace HS := Aside0.mk (HS.out.below hb)); (try replace HT := Aside0.mk (HT.out.below hb)); replace d0 := pw_cell_below hb d0; replace d2 := pw_cell_below hb d2; replace d3 := pw_cell_below hb d3; replace HB := Aside0.mk (bthen HB.out hb); have HT := Aside0.mk (Sl.of_R hr); clear hr hb))
        | (go_at_call 72; ((with_reducible refine (laws_lwIn vt (flowTimes s y.f0) y.f2 _ HT.out).mono ?_); rintro e w' ⟨rfl, hb⟩; (try replace HX := Aside0.mk (HX.out.below hb)); (try replace HS := Aside0.mk (HS.out.below hb)); (try replace HT := Aside0.mk (HT.out.below hb)); replace d0 := pw_cell_below hb d0; replace d2 := pw_cell_below hb d2; replace d3 := pw_cell_below hb d3; replace HB := Aside0.mk (bthen HB.out hb); clear hb)))
      go_wp2
      go_roundw
      case rel => exact ⟨k + 1, by omega, by go_num, HX, HS, HB⟩
      case measure => simp [intOf]; omega
    · go_wp2
      go_ret
      exact RetV.mk rfl HB.out
end Go.Proofs.Ythljcnlmeefcjaa.X

