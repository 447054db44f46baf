/- The walk of the law on the times at which something may change. Conditions: none. -/
import Derived.Test.YtdppnipodndcpaaXDrFt
import Derived.Test.YtdppnipodndcpaaXFt2
import Derived.Test.YtdppnipodndcpaaXLw
import Derived.Test.YtdppnipodndcpaaXBytes
import Derived.RegionTactic
import Derived.BigRegion
namespace Go.Proofs.Ytdppnipodndcpaa.X
open Go.RowKit Go.Proofs.YtdppnipodndcpaaW.PrintWords
set_option linter.unusedVariables false
set_option linter.unusedSimpArgs false

theorem mem_flowTimes {l : List Rw} {key : Int} (hl : rowsOk l = true) {t : Tm} : t ∈ flowTimes l key ↔ Clo (keyT l key) t := by
  unfold flowTimes
  rw [if_pos hl, mem_timesL, cloB_iff]
  exact ⟨fun h => h.2, fun h => ⟨h.ok (keyT_ok (rowsOk_all hl).2), h⟩⟩
/-- FnFlowTimes, told plainly -/
theorem flowTimes_shut {l : List Rw} {key : Int} (hl : rowsOk l = true) : (∀ x ∈ flowTimes l key, ∀ y ∈ flowTimes l key, tJoin x y ∈ flowTimes l key) ∧ ∀ r ∈ l, r.f0 = key → r.f2 ∈ flowTimes l key :=
  ⟨fun x hx y hy => (mem_flowTimes hl).2 (.join ((mem_flowTimes hl).1 hx) ((mem_flowTimes hl).1 hy)), fun r hr hk => (mem_flowTimes hl).2 (.base ⟨r, hr, hk, rfl⟩)⟩
set_option maxRecDepth 100000 in
set_option maxHeartbeats 4000000 in
theorem laws_FnFlowTimes (v : Value) (l : List Int) (w : World) (h : IsBytes w v l) : Calls Try.prog 3 #[v] w (RetV w (.bool true)) := by
  have H := Aside0.mk h
  obtain ⟨⟨A, c, rfl, hc, hr⟩, hb⟩ := h
  have hm := Kd.C_max hr
  clear hr hb
  have HB := Aside0.mk (Below.refl w.heap.size w)
  go_enter Try.func3, Try.ntmps3
  by_cases hl : 1048576 < l.length
  · have hl' : (l.length : Int) > 1048576 := by omega
    go_wp2
    go_ret
    exact RetV.mk rfl HB.out
  have hl' : ¬ (l.length : Int) > 1048576 := by omega
  go_upto_region 4 with (go_at_call 13; ((with_reducible refine (spec_DrawFlowTimes (.slice A l.length c) l w H.out.sl H.out.by_).mono ?_); rintro e wa ⟨vs, s, key, rfl, h1, h2, h3, h5⟩; have HS := Aside0.mk h1; replace HB := Aside0.mk h5; clear h1 h2 h3 h5))
  have q0 : decide (flowTimes s key = flowTimes s key) = true := decide_eq_true rfl
  cases hs : rowsOk s
  · go_wp2_with (first
      | (go_at_call 14; ((with_reducible refine (impl_FlowTimes vs s key _ HS.out).mono ?_); rintro e w' ⟨vx, rfl, hr, hb⟩; (try replace HS := Aside0.mk (HS.out.below hb)); (try replace HX := Aside0.mk (HX.out.below hb)); (try replace HY := Aside0.mk (HY.out.below hb)); replace HB := Aside0.mk (bthen HB.out hb); have HX := Aside0.mk (Sl.of_R hr); clear hr hb))
      | (go_at_call 16; ((with_reducible refine (spec_FlowTimes vs s key _ HS.out).mono ?_); rintro e w' ⟨vy, rfl, hr, hb⟩; (try replace HS := Aside0.mk (HS.out.below hb)); (try replace HX := Aside0.mk (HX.out.below hb)); (try replace HY := Aside0.mk (HY.out.below hb)); replace HB := Aside0.mk (bthen HB.out hb); have HY := Aside0.mk (Sl.of_R hr); clear hr hb))
      | (go_at_call 15; ((with_reducible refine (laws_lwTimes vx vy (flowTimes s key) (flowTimes s key) _ HX.out HY.out).mono ?_); rintro e w' ⟨rfl, hb⟩; (try replace HS := Aside0.mk (HS.out.below hb)); (try replace HX := Aside0.mk (HX.out.below hb)); (try replace HY := Aside0.mk (HY.out.below hb)); replace HB := Aside0.mk (bthen HB.out hb); clear hb))
      | (go_at_call 17; ((with_reducible refine (spec_RowsOk vs s _ HS.out).mono ?_); rintro e w' ⟨rfl, hb⟩; (try replace HS := Aside0.mk (HS.out.below hb)); (try replace HX := Aside0.mk (HX.out.below hb)); (try replace HY := Aside0.mk (HY.out.below hb)); replace HB := Aside0.mk (bthen HB.out hb); clear hb)))
    go_ret
    exact RetV.mk rfl HB.out
  · obtain ⟨k1, k2⟩ := flowTimes_shut (key := key) hs
    have K1 := Aside0.mk k1
    have K2 := Aside0.mk k2
    clear k1 k2
    go_upto_region 7 with (first
      | (go_at_call 14; ((with_reducible refine (impl_FlowTimes vs s key _ HS.out).mono ?_); rintro e w' ⟨vx, rfl, hr, hb⟩; (try replace HS := Aside0.mk (HS.out.below hb)); (try replace HX := Aside0.mk (HX.out.below hb)); (try replace HY := Aside0.mk (HY.out.below hb)); replace HB := Aside0.mk (bthen HB.out hb); have HX := Aside0.mk (Sl.of_R hr); clear hr hb))
      | (go_at_call 16; ((with_reducible refine (spec_FlowTimes vs s key _ HS.out).mono ?_); rintro e w' ⟨vy, rfl, hr, hb⟩; (try replace HS := Aside0.mk (HS.out.below hb)); (try replace HX := Aside0.mk (HX.out.below hb)); (try replace HY := Aside0.mk (HY.out.below hb)); replace HB := Aside0.mk (bthen HB.out hb); have HY := Aside0.mk (Sl.of_R hr); clear hr hb))
      | (go_at_call 15; ((with_reducible refine (laws_lwTimes vx vy (flowTimes s key) (flowTimes s key) _ HX.out HY.out).mono ?_); rintro e w' ⟨rfl, hb⟩; (try replace HS := Aside0.mk (HS.out.below hb)); (try replace HX := Aside0.mk (HX.out.below hb)); (try replace HY := Aside0.mk (HY.out.below hb)); replace HB := Aside0.mk (bthen HB.out hb); clear hb))
      | (go_at_call 17; ((with_reducible refine (spec_RowsOk vs s _ HS.out).mono ?_); rintro e w' ⟨rfl, hb⟩; (try replace HS := Aside0.mk (HS.out.below hb)); (try replace HX := Aside0.mk (HX.out.below hb)); (try replace HY := Aside0.mk (HY.out.below hb)); replace HB := Aside0.mk (bthen HB.out hb); clear hb)))
    clear HY
    obtain ⟨A3, c3, rfl, hc3, hC3⟩ := HX.out
    have hm3 := Kd.C_max hC3
    clear hC3
    obtain ⟨A4, c4, rfl, hc4, hC4⟩ := HS.out
    have hm4 := Kd.C_max hC4
    clear hC4
    generalize flowTimes s key = x at *
    go_wp2
    go_loopw [6] (fun i wr => ∃ k : Nat, k ≤ x.length ∧ i = .int .i64 k ∧ Aside0 (Sl kTm wr (.slice A3 x.length c3) x) ∧ Aside0 (Sl kRw wr (.slice A4 s.length c4) s) ∧ Aside0 (Below w.heap.size w wr)) (fun i _ => x.length - (intOf i).toNat)
    case atStart => exact ⟨0, Nat.zero_le _, rfl, HX, HS, HB⟩
    case round =>
      clear HX HS HB
      obtain ⟨k, hk, rfl, HX, HS, HB⟩ := hrel
      by_cases hlt : k < x.length
      · go_wp2
        go_loopw [7] (fun i wr => ∃ m : Nat, m ≤ k ∧ i = .int .i64 m ∧ Aside0 (Sl kTm wr (.slice A3 x.length c3) x) ∧ Aside0 (Sl kRw wr (.slice A4 s.length c4) s) ∧ Aside0 (Below w.heap.size w wr)) (fun i _ => k - (intOf i).toNat)
        case atStart => exact ⟨0, Nat.zero_le _, rfl, HX, HS, HB⟩
        case round =>
          clear HX HS HB
          obtain ⟨m, hm, rfl, HX, HS, HB⟩ := hrel
          by_cases hlt2 : m < k
          · obtain ⟨A5, c5, e5, hc5, hC5⟩ := HX.out
            cases e5
            obtain ⟨ad, y, e, HY, h0, h1⟩ := rdTm hC5 (Below.refl _ _) hlt
            cases e
            obtain ⟨ad', z, e, HZ, i0, i1⟩ := rdTm hC5 (Below.refl _ _) (show m < x.length by omega)
            cases e
            have hj := K1.out y (List.mem_of_getElem? HY.out) z (List.mem_of_getElem? HZ.out)
            obtain ⟨u, hu⟩ : ∃ u, u = tJoin y z := ⟨_, rfl⟩
            rw [← hu] at hj
            have q1 := decide_eq_true hj
            have TJ : ∀ W, Calls Try.prog 19 #[.agg #[.int .i64 y.f0, .int .i64 y.f1], .agg #[.int .i64 z.f0, .int .i64 z.f1]] W (RetV W (.agg #[.int .i64 u.f0, .int .i64 u.f1])) := fun W => by rw [hu]; exact impl_TimeJoin y.f0 y.f1 z.f0 z.f1 W
            clear hC5 hj hu
            have hms : m < x.length := by omega
            have d0 : wr.drew.cell? (ad.add (k * 2)) = some (.int .i64 y.f0) := h0
            have d1 : wr.drew.cell? ⟨(ad.add (k * 2)).block, (ad.add (k * 2)).off + 1, none⟩ = some (.int .i64 y.f1) := h1
            have d2 : wr.drew.cell? (ad.add (m * 2)) = some (.int .i64 z.f0) := i0
            have d3 : wr.drew.cell? ⟨(ad.add (m * 2)).block, (ad.add (m * 2)).off + 1, none⟩ = some (.int .i64 z.f1) := i1
            replace HX := Aside0.mk (HX.out.below (below_drew (Below.refl _ _)))
            replace HS := Aside0.mk (HS.out.below (below_drew (Below.refl _ _)))
            replace HB := Aside0.mk (below_drew HB.out)
            go_upto_region 13 with fail
            go_region_held3 (fun w' => w'.cell? (ad.add (k * 2)) = some (.int .i64 y.f0) ∧ w'.cell? ⟨(ad.add (k * 2)).block, (ad.add (k * 2)).off + 1, none⟩ = some (.int .i64 y.f1) ∧ w'.cell? (ad.add (m * 2)) = some (.int .i64 z.f0) ∧ w'.cell? ⟨(ad.add (m * 2)).block, (ad.add (m * 2)).off + 1, none⟩ = some (.int .i64 z.f1)) (first | exact ⟨h0, h1, i0, i1⟩ | exact ⟨d0, d1, d2, d3⟩)
              (first
              | (go_at_call 19; ((with_reducible refine (TJ _).mono ?_); rintro e w' ⟨rfl, hb⟩; (try replace HX := Aside0.mk (HX.out.below hb)); (try replace HS := Aside0.mk (HS.out.below hb)); replace d0 := pw_cell_below hb d0; replace d1 := pw_cell_below hb d1; replace d2 := pw_cell_below hb d2; replace d3 := pw_cell_below hb d3; replace HB := Aside0.mk (bthen HB.out hb); clear hb))
              | (go_at_call 18; ((with_reducible refine (laws_lwIn (.slice (some ad) x.length c3) x u _ HX.out).mono ?_); rintro e w' ⟨rfl, hb⟩; (try replace HX := Aside0.mk (HX.out.below hb)); (try replace HS := Aside0.mk (HS.out.below hb)); replace d0 := pw_cell_below hb d0; replace d1 := pw_cell_below hb d1; replace d2 := pw_cell_below hb d2; replace d3 := pw_cell_below hb d3; replace HB := Aside0.mk (bthen HB.out hb); clear hb)))
            go_wp2
            go_roundw
            case rel => exact ⟨m + 1, by omega, by go_num, HX, HS, HB⟩
            case measure => simp [intOf]; omega
          · go_wp2
            go_roundw
            case rel => exact ⟨k + 1, by omega, by go_num, HX, HS, HB⟩
            case measure => simp [intOf]; omega
      · go_wp2
        go_loopw [8] (fun i wr => ∃ m : Nat, m ≤ s.length ∧ i = .int .i64 m ∧ Aside0 (Sl kTm wr (.slice A3 x.length c3) x) ∧ Aside0 (Sl kRw wr (.slice A4 s.length c4) s) ∧ Aside0 (Below w.heap.size w wr)) (fun i _ => s.length - (intOf i).toNat)
        case atStart => exact ⟨0, Nat.zero_le _, rfl, HX, HS, HB⟩
        case round =>
          clear HX HS HB
          obtain ⟨m, hm, rfl, HX, HS, HB⟩ := hrel
          by_cases hlt2 : m < s.length
          · obtain ⟨A5, c5, e5, hc5, hC5⟩ := HS.out
            cases e5
            obtain ⟨ad, y, e, HY, h0, h1, h2, h3, h4⟩ := rdRw hC5 (Below.refl _ _) hlt2
            cases e
            clear hC5
            cases hk0 : (y.f0 == key)
            · go_wp2
              go_roundw
              case rel => exact ⟨m + 1, by omega, by go_num, HX, HS, HB⟩
              case measure => simp [intOf]; omega
            · have q1 := decide_eq_true (K2.out y (List.mem_of_getElem? HY.out) (by simpa using hk0))
              go_wp2_with (first
                | (go_at_call 18; ((with_reducible refine (laws_lwIn (.slice A3 x.length c3) x y.f2 _ HX.out).mono ?_); rintro e w' ⟨rfl, hb⟩; (try replace HX := Aside0.mk (HX.out.below hb)); (try replace HS := Aside0.mk (HS.out.below hb)); replace HB := Aside0.mk (bthen HB.out hb); clear hb)))
              go_roundw
              case rel => exact ⟨m + 1, by omega, by go_num, HX, HS, HB⟩
              case measure => simp [intOf]; omega
          · go_wp2
            go_ret
            exact RetV.mk rfl HB.out
end Go.Proofs.Ytdppnipodndcpaa.X
