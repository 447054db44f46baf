/- The walk of the exact law on FlowTimes. Conditions: none. -/
import Derived.Test.YtdppnipodndcpaaXExact2
import Derived.Test.YtdppnipodndcpaaXFt2
namespace Go.Proofs.Ytdppnipodndcpaa.X
open Go.RowKit Go.Proofs.YtdppnipodndcpaaW.PrintWords
set_option linter.unusedVariables false
set_option linter.unusedSimpArgs false

theorem flowTimes_len (l : List Rw) (key : Int) : (flowTimes l key).length ≤ 64 := by
  unfold flowTimes
  split
  · exact cntT_le _
  · simp
set_option maxRecDepth 100000 in
set_option maxHeartbeats 4000000 in
theorem laws_FnExactFlowTimes (v : Value) (l : List Rw) (key : Int) (w : World) (h : Sl kRw w v l) : Calls Try.prog 4 #[v, .int .i64 key] w (RetV w (.bool true)) := by
  have HA := Aside0.mk h
  obtain ⟨A0, c0, rfl, hc0, hC0⟩ := h
  have hm0 := Kd.C_max hC0
  clear hC0
  by_cases hbig : (1048576 : Int) < l.length
  · have HB := Aside0.mk (Below.refl w.heap.size w)
    go_enter Try.func4, Try.ntmps4
    go_wp2_with (first
      | (go_at_call 20; ((with_reducible refine (laws_szRowS_big (.slice A0 l.length c0) l 1048576 _ HA.out (by omega) (by omega) hbig).mono ?_); rintro e w' ⟨rfl, hb⟩; (try replace HA := Aside0.mk (HA.out.below hb)); replace HB := Aside0.mk (bthen HB.out hb); clear hb)))
    go_ret
    exact RetV.mk rfl HB.out
  · have hpos : ¬ (1048576 - (l.length : Int) < 0) := by omega
    have q1 : eqRwS l l = true := (eqRwS_iff l l).2 rfl
    have hts := flowTimes_len l key
    have HB := Aside0.mk (Below.refl w.heap.size w)
    go_enter Try.func4, Try.ntmps4
    go_upto_region 6 with (first
      | (go_at_call 20; ((with_reducible refine (laws_szRowS_ok (.slice A0 l.length c0) l 1048576 _ HA.out (by omega) (by omega) hbig).mono ?_); rintro e w' ⟨rfl, hb⟩; (try replace HA := Aside0.mk (HA.out.below hb)); (try replace H1 := Aside0.mk (H1.out.below hb)); (try replace HW := Aside0.mk (HW.out.below hb)); replace HB := Aside0.mk (bthen HB.out hb); clear hb))
      | (go_at_call 21; ((with_reducible refine (laws_toRowS (.slice A0 l.length c0) l _ HA.out (by omega)).mono ?_); rintro e w' ⟨vr, rfl, hr, hb⟩; (try replace HA := Aside0.mk (HA.out.below hb)); (try replace H1 := Aside0.mk (H1.out.below hb)); (try replace HW := Aside0.mk (HW.out.below hb)); replace HB := Aside0.mk (bthen HB.out hb); have H1 := Aside0.mk (Sl.of_R hr); clear hr hb))
      | (go_at_call 16; ((with_reducible refine (spec_FlowTimes vr l key _ H1.out).mono ?_); rintro e w' ⟨vw, rfl, hr, hb⟩; (try replace HA := Aside0.mk (HA.out.below hb)); (try replace H1 := Aside0.mk (H1.out.below hb)); (try replace HW := Aside0.mk (HW.out.below hb)); replace HB := Aside0.mk (bthen HB.out hb); have HW := Aside0.mk (Sl.of_R hr); clear hr hb)))
    clear H1
    rename World => Wx
    have HA0 := HA
    have HW0 := HW
    have HBW0 := HB
    go_upto_region 7 with (go_at_call 21; ((with_reducible refine (laws_toRowS (.slice A0 l.length c0) l _ HA.out (by omega)).mono ?_); rintro e w2 ⟨vx, rfl, hr, hb⟩; have HXO := Aside0.mk (Kd.R_mono (Kd.R_bound hr) (ok' := fun q => q < w2.heap.size) (fun q hq => hq.2.2.1)); replace HA := Aside0.mk (HA.out.below hb); replace HW := Aside0.mk (HW.out.below hb); have HBX := Aside0.mk hb; replace HB := Aside0.mk (bthen HB.out hb); clear hr hb))
    obtain ⟨N, hN⟩ : ∃ N, N = w2.heap.size := ⟨_, rfl⟩
    rw [← hN] at HXO
    have hN2 : N ≤ w2.heap.size := by omega
    clear hN
    obtain ⟨ts, hts0⟩ : ∃ ts, ts = flowTimes l key := ⟨_, rfl⟩
    rw [← hts0] at HW HW0 hts
    have q0 : decide (ts = ts) = true := decide_eq_true rfl
    have HTS := Aside0.mk hts0
    clear hts0
    go_upto_region 8 with (go_at_call 14; ((with_reducible refine (impl_FlowTimes vx l key _ (Sl.of_R HXO.out)).mono ?_); rintro e w3 ⟨vg, rfl, hr, hb⟩; have HGO := Aside0.mk (Kd.R_lower (Kd.R_mono (Kd.R_bound hr) (ok' := fun q => N ≤ q) (fun q hq => Nat.le_trans hN2 hq.2.1)) HBX.out.size); replace HXO := Aside0.mk (Kd.R_below HXO.out hb); replace HA := Aside0.mk (HA.out.below hb); replace HW := Aside0.mk (HW.out.below hb); replace HBX := Aside0.mk (bthen HBX.out hb); replace HB := Aside0.mk (bthen HB.out hb); clear hr hb))
    rw [← HTS.out] at HGO
    go_upto_region 13 with (first
      | (go_at_call 22; ((with_reducible refine (laws_eqTimeS vg vw ts ts _ (Sl.of_R HGO.out) HW.out).mono ?_); rintro e w' ⟨rfl, hb⟩; (try replace HA := Aside0.mk (HA.out.below hb)); (try replace HW := Aside0.mk (HW.out.below hb)); (try replace H3 := Aside0.mk (H3.out.below hb)); (try replace HXO := Aside0.mk (Kd.R_below HXO.out hb)); (try replace HGO := Aside0.mk (Kd.R_below HGO.out hb)); (try replace HBX := Aside0.mk (bthen HBX.out hb)); replace HB := Aside0.mk (bthen HB.out hb); clear hb))
      | (go_at_call 21; ((with_reducible refine (laws_toRowS (.slice A0 l.length c0) l _ HA.out (by omega)).mono ?_); rintro e w' ⟨v3, rfl, hr, hb⟩; (try replace HA := Aside0.mk (HA.out.below hb)); (try replace HW := Aside0.mk (HW.out.below hb)); (try replace H3 := Aside0.mk (H3.out.below hb)); (try replace HXO := Aside0.mk (Kd.R_below HXO.out hb)); (try replace HGO := Aside0.mk (Kd.R_below HGO.out hb)); (try replace HBX := Aside0.mk (bthen HBX.out hb)); replace HB := Aside0.mk (bthen HB.out hb); have H3 := Aside0.mk (Sl.of_R hr); clear hr hb))
      | (go_at_call 23; ((with_reducible refine (laws_eqRowS vx v3 l l _ (Sl.of_R HXO.out) H3.out).mono ?_); rintro e w' ⟨rfl, hb⟩; (try replace HA := Aside0.mk (HA.out.below hb)); (try replace HW := Aside0.mk (HW.out.below hb)); (try replace H3 := Aside0.mk (H3.out.below hb)); (try replace HXO := Aside0.mk (Kd.R_below HXO.out hb)); (try replace HGO := Aside0.mk (Kd.R_below HGO.out hb)); (try replace HBX := Aside0.mk (bthen HBX.out hb)); replace HB := Aside0.mk (bthen HB.out hb); clear hb)))
    clear H3 HB HA HW
    have hk0 : ¬ (1 + 5 * (l.length : Int) < 0) := by omega
    go_upto_region 14 with (go_at_call 24; ((with_reducible refine (laws_markRowS (fun q => q < N) vx l 1 Wx _ HBX.out HXO.out (by omega) (by omega)).mono ?_); rintro e w4 ⟨rfl, hr, hb, hk⟩; replace HGO := Aside0.mk (Kd.R_kept HGO.out hk (fun q hq hq2 => by have : q < N := hq2; omega)); have HA := Aside0.mk (HA0.out.below hb); have HW := Aside0.mk (HW0.out.below hb); replace HBX := Aside0.mk hb; have HB := Aside0.mk (bthen HBW0.out hb); clear hr hb hk HXO))
    go_upto_region 17 with (first
      | (go_at_call 22; ((with_reducible refine (laws_eqTimeS vg vw ts ts _ (Sl.of_R HGO.out) HW.out).mono ?_); rintro e w' ⟨rfl, hb⟩; (try replace HA := Aside0.mk (HA.out.below hb)); (try replace HW := Aside0.mk (HW.out.below hb)); (try replace HXO := Aside0.mk (Kd.R_below HXO.out hb)); (try replace HGO := Aside0.mk (Kd.R_below HGO.out hb)); (try replace HBX := Aside0.mk (bthen HBX.out hb)); replace HB := Aside0.mk (bthen HB.out hb); clear hb)))
    clear HB HA HW
    have hm1 : ¬ (1 + 2 * (ts.length : Int) < 0) := by omega
    go_upto_region 18 with (go_at_call 25; ((with_reducible refine (laws_markTimeS (fun q => N ≤ q) vg ts 1 Wx _ HBX.out HGO.out (by omega) (by omega)).mono ?_); rintro e w5 ⟨rfl, hr, hb, hk⟩; replace HGO := Aside0.mk hr; have HA := Aside0.mk (HA0.out.below hb); have HW := Aside0.mk (HW0.out.below hb); replace HBX := Aside0.mk hb; have HB := Aside0.mk (bthen HBW0.out hb); clear hr hb hk))
    have HMA := Aside0.mk (marksT_at ts.length)
    have HML := Aside0.mk (marksT_len 1 ts.length)
    generalize marksT 1 ts.length = ms at *
    have hml : ms.length ≤ 1000000 := by have := HML.out; omega
    obtain ⟨n, hn⟩ : ∃ n : Nat, n = ts.length := ⟨_, rfl⟩
    have HD : ∀ W, Sl kTm W vg ms → Calls Try.prog 26 #[vg, .int .i64 1] W (RetV W (.int .i64 (1 + 2 * (ts.length : Int)))) := fun W h => by rw [← HML.out]; exact laws_heldTimeS vg ms W h HMA.out hml
    go_wp2_with (first
      | (go_at_call 26; ((with_reducible refine (HD _ (Sl.of_R HGO.out)).mono ?_); rintro e w' ⟨rfl, hb⟩; (try replace HA := Aside0.mk (HA.out.below hb)); (try replace HW := Aside0.mk (HW.out.below hb)); (try replace H5 := Aside0.mk (H5.out.below hb)); (try replace HXO := Aside0.mk (Kd.R_below HXO.out hb)); (try replace HGO := Aside0.mk (Kd.R_below HGO.out hb)); (try replace HBX := Aside0.mk (bthen HBX.out hb)); replace HB := Aside0.mk (bthen HB.out hb); clear hb))
      | (go_at_call 21; ((with_reducible refine (laws_toRowS (.slice A0 l.length c0) l _ HA.out (by omega)).mono ?_); rintro e w' ⟨v5, rfl, hr, hb⟩; (try replace HA := Aside0.mk (HA.out.below hb)); (try replace HW := Aside0.mk (HW.out.below hb)); (try replace H5 := Aside0.mk (H5.out.below hb)); (try replace HXO := Aside0.mk (Kd.R_below HXO.out hb)); (try replace HGO := Aside0.mk (Kd.R_below HGO.out hb)); (try replace HBX := Aside0.mk (bthen HBX.out hb)); replace HB := Aside0.mk (bthen HB.out hb); have H5 := Aside0.mk (Sl.of_R hr); clear hr hb))
      | (go_at_call 14; ((with_reducible refine (impl_FlowTimes v5 l key _ H5.out).mono ?_); rintro e w' ⟨vh, rfl, hr, hb⟩; (try replace HA := Aside0.mk (HA.out.below hb)); (try replace HW := Aside0.mk (HW.out.below hb)); (try replace H5 := Aside0.mk (H5.out.below hb)); (try replace HXO := Aside0.mk (Kd.R_below HXO.out hb)); (try replace HGO := Aside0.mk (Kd.R_below HGO.out hb)); (try replace HBX := Aside0.mk (bthen HBX.out hb)); replace HB := Aside0.mk (bthen HB.out hb); rw [← HTS.out] at hr; have H6 := Aside0.mk (Sl.of_R hr); clear hr hb))
      | (go_at_call 22; ((with_reducible refine (laws_eqTimeS vh vw ts ts _ H6.out HW.out).mono ?_); rintro e w' ⟨rfl, hb⟩; (try replace HA := Aside0.mk (HA.out.below hb)); (try replace HW := Aside0.mk (HW.out.below hb)); (try replace H5 := Aside0.mk (H5.out.below hb)); (try replace HXO := Aside0.mk (Kd.R_below HXO.out hb)); (try replace HGO := Aside0.mk (Kd.R_below HGO.out hb)); (try replace HBX := Aside0.mk (bthen HBX.out hb)); replace HB := Aside0.mk (bthen HB.out hb); clear hb)))
    go_ret
    exact RetV.mk rfl HB.out
end Go.Proofs.Ytdppnipodndcpaa.X
