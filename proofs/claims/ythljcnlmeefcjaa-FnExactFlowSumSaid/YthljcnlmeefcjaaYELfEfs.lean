/- The walk of the exact law on FlowSum, and of laws.heldRowS. Conditions: none. -/
import Derived.Test.YthljcnlmeefcjaaYEExact2
import Derived.Test.YthljcnlmeefcjaaYEFs3
import Derived.Test.YthljcnlmeefcjaaYEPlH
namespace Go.Proofs.Ythljcnlmeefcjaa.X
open Go.RowKit Go.Proofs.YthljcnlmeefcjaaW.PrintWords
set_option linter.unusedVariables false
set_option linter.unusedSimpArgs false

theorem marks_at (n : Nat) : ∀ (k : Nat) (x : Rw), (marks 1 n)[k]? = some x → x = ⟨1 + 5 * (k : Int), 1 + 5 * (k : Int) + 1, ⟨1 + 5 * (k : Int) + 1 + 1, 1 + 5 * (k : Int) + 1 + 1 + 1⟩, 1 + 5 * (k : Int) + 1 + 1 + 1 + 1⟩ := fun k x h => by
  have hk := (List.getElem?_eq_some_iff.1 h).1
  rw [marks_len] at hk
  have e : (marks 1 n)[k]? = some (mark (1 + 5 * (k : Int))) := by unfold marks; rw [List.getElem?_map, List.getElem?_range hk]; rfl
  rw [← Option.some.inj (h.symm.trans e).symm]
  unfold mark
  refine Rw.ext' rfl rfl (Tm.ext' ?_ ?_) ?_ <;> simp only <;> omega
set_option maxRecDepth 100000 in
set_option maxHeartbeats 2000000 in
theorem laws_heldRowS (v : Value) (l : List Rw) (w : World) (h : Sl kRw w v l) (hl0 : ∀ (k : Nat) (x : Rw), l[k]? = some x → x = ⟨1 + 5 * (k : Int), 1 + 5 * (k : Int) + 1, ⟨1 + 5 * (k : Int) + 1 + 1, 1 + 5 * (k : Int) + 1 + 1 + 1⟩, 1 + 5 * (k : Int) + 1 + 1 + 1 + 1⟩) (hn : l.length ≤ 1000000) : Calls Try.prog 54 #[v, .int .i64 1] w (RetV w (.int .i64 (1 + 5 * (l.length : Int)))) := by
  have HL := Aside0.mk hl0
  clear hl0
  obtain ⟨A, c_, rfl, HC, hr⟩ := h
  have hm := Kd.C_max hr
  have HR := Aside0.mk hr
  clear hr
  have HB := Aside0.mk (Below.refl w.heap.size w)
  go_enter Try.func54, Try.ntmps54
  go_wp2
  go_loopw [1, 5] (fun q i wr => ∃ k : Nat, k ≤ l.length ∧ q = .int .i64 (1 + 5 * (k : Int)) ∧ i = .int .i64 k ∧ Aside0 (Below w.heap.size w wr)) (fun _ i _ => l.length - (intOf i).toNat)
  case atStart => exact ⟨0, Nat.zero_le _, rfl, rfl, HB⟩
  case round =>
    clear HB
    obtain ⟨k, hk, rfl, rfl, HB⟩ := hrel
    by_cases hlt : k < l.length
    · obtain ⟨ad, x, e, HX, h0, h1, h2, h3, h4⟩ := rdRw HR.out HB.out hlt
      cases e
      have ex := HL.out k x HX.out
      subst ex
      have ew : wrap64 (1 + 5 * (k : Int) + 1) = 1 + 5 * (k : Int) + 1 := by unfold wrap64; omega
      have ew2 : wrap64 (1 + 5 * (k : Int) + 1 + 1) = 1 + 5 * (k : Int) + 1 + 1 := by unfold wrap64; omega
      have ew3 : wrap64 (1 + 5 * (k : Int) + 1 + 1 + 1) = 1 + 5 * (k : Int) + 1 + 1 + 1 := by unfold wrap64; omega
      have ew4 : wrap64 (1 + 5 * (k : Int) + 1 + 1 + 1 + 1) = 1 + 5 * (k : Int) + 1 + 1 + 1 + 1 := by unfold wrap64; omega
      have ew5 : wrap64 (1 + 5 * (k : Int) + 1 + 1 + 1 + 1 + 1) = 1 + 5 * (k : Int) + 1 + 1 + 1 + 1 + 1 := by unfold wrap64; omega
      go_wp2
      go_roundw
      case rel => exact ⟨k + 1, by omega, by go_num, by go_num, HB⟩
      case measure => simp [intOf]; omega
    · obtain rfl : k = l.length := by omega
      go_wp2
      go_ret
      exact RetV.mk rfl HB.out
set_option maxRecDepth 100000 in
set_option maxHeartbeats 4000000 in
theorem laws_FnExactFlowSum (v : Value) (l : List Rw) (key : Int) (w : World) (h : Sl kRw w v l) : Calls Try.prog 12 #[v, .int .i64 key] w (RetV w (.bool true)) := by
  have HA := Aside0.mk h
  obtain ⟨A0, c0, rfl, hc0, hC0⟩ := h
  have hm0 := Kd.C_max hC0
  clear hC0
  by_cases hbig : (1048576 : Int) < l.length
  · have HB := Aside0.mk (Below.refl w.heap.size w)
    go_enter Try.func12, Try.ntmps12
    go_wp2_with (first
      | (go_at_call 74; ((with_reducible refine (laws_szRowS_big (.slice A0 l.length c0) l 1048576 _ HA.out (by omega) (by omega) hbig).mono ?_); rintro e w' ⟨rfl, hb⟩; (try replace HA := Aside0.mk (HA.out.below hb)); replace HB := Aside0.mk (bthen HB.out hb); clear hb)))
    go_ret
    exact RetV.mk rfl HB.out
  · have hpos : ¬ (1048576 - (l.length : Int) < 0) := by omega
    have q1 : eqRwS l l = true := (eqRwS_iff l l).2 rfl
    have hts := batchOk_len (flowSum_ok (a := l) (kind := key))
    have HB := Aside0.mk (Below.refl w.heap.size w)
    go_enter Try.func12, Try.ntmps12
    go_upto_region 6 with (first
      | (go_at_call 74; ((with_reducible refine (laws_szRowS_ok (.slice A0 l.length c0) l 1048576 _ HA.out (by omega) (by omega) hbig).mono ?_); rintro e w' ⟨rfl, hb⟩; (try replace HA := Aside0.mk (HA.out.below hb)); (try replace H1 := Aside0.mk (H1.out.below hb)); (try replace HW := Aside0.mk (HW.out.below hb)); replace HB := Aside0.mk (bthen HB.out hb); clear hb))
      | (go_at_call 75; ((with_reducible refine (laws_toRowS (.slice A0 l.length c0) l _ HA.out (by omega)).mono ?_); rintro e w' ⟨vr, rfl, hr, hb⟩; (try replace HA := Aside0.mk (HA.out.below hb)); (try replace H1 := Aside0.mk (H1.out.below hb)); (try replace HW := Aside0.mk (HW.out.below hb)); replace HB := Aside0.mk (bthen HB.out hb); have H1 := Aside0.mk (Sl.of_R hr); clear hr hb))
      | (go_at_call 70; ((with_reducible refine (spec_FlowSum vr l key _ H1.out).mono ?_); rintro e w' ⟨vw, rfl, hr, hb⟩; (try replace HA := Aside0.mk (HA.out.below hb)); (try replace H1 := Aside0.mk (H1.out.below hb)); (try replace HW := Aside0.mk (HW.out.below hb)); replace HB := Aside0.mk (bthen HB.out hb); have HW := Aside0.mk hr; clear hr hb)))
    clear H1
    rename World => Wx
    have HA0 := HA
    have HW0 := HW
    have HBW0 := HB
    go_upto_region 7 with (go_at_call 75; ((with_reducible refine (laws_toRowS (.slice A0 l.length c0) l _ HA.out (by omega)).mono ?_); rintro e w2 ⟨vx, rfl, hr, hb⟩; have HXO := Aside0.mk (Kd.R_mono (Kd.R_bound hr) (ok' := fun q => q < w2.heap.size) (fun q hq => hq.2.2.1)); replace HA := Aside0.mk (HA.out.below hb); replace HW := Aside0.mk (HW.out.below hb); have HBX := Aside0.mk hb; replace HB := Aside0.mk (bthen HB.out hb); clear hr hb))
    obtain ⟨N, hN⟩ : ∃ N, N = w2.heap.size := ⟨_, rfl⟩
    rw [← hN] at HXO
    have hN2 : N ≤ w2.heap.size := by omega
    clear hN
    obtain ⟨ts, hts0⟩ : ∃ ts, ts = flowSum l key := ⟨_, rfl⟩
    rw [← hts0] at HW HW0 hts
    have q0 : eqRwS ts ts = true := (eqRwS_iff ts ts).2 rfl
    have HTS := Aside0.mk hts0
    clear hts0
    go_upto_region 8 with (go_at_call 60; ((with_reducible refine (impl_FlowSum vx l key _ (Sl.of_R HXO.out)).mono ?_); rintro e w3 ⟨vg, rfl, hr, hb⟩; have HGO := Aside0.mk (Kd.R_lower (Kd.R_mono (Kd.R_bound hr) (ok' := fun q => N ≤ q) (fun q hq => Nat.le_trans hN2 hq.2.1)) HBX.out.size); replace HXO := Aside0.mk (Kd.R_below HXO.out hb); replace HA := Aside0.mk (HA.out.below hb); replace HW := Aside0.mk (HW.out.below hb); replace HBX := Aside0.mk (bthen HBX.out hb); replace HB := Aside0.mk (bthen HB.out hb); clear hr hb))
    rw [← HTS.out] at HGO
    go_upto_region 13 with (first
      | (go_at_call 52; ((with_reducible refine (laws_eqRowS vg vw ts ts _ (Sl.of_R HGO.out) HW.out).mono ?_); rintro e w' ⟨rfl, hb⟩; (try replace HA := Aside0.mk (HA.out.below hb)); (try replace HW := Aside0.mk (HW.out.below hb)); (try replace H3 := Aside0.mk (H3.out.below hb)); (try replace HXO := Aside0.mk (Kd.R_below HXO.out hb)); (try replace HGO := Aside0.mk (Kd.R_below HGO.out hb)); (try replace HBX := Aside0.mk (bthen HBX.out hb)); replace HB := Aside0.mk (bthen HB.out hb); clear hb))
      | (go_at_call 75; ((with_reducible refine (laws_toRowS (.slice A0 l.length c0) l _ HA.out (by omega)).mono ?_); rintro e w' ⟨v3, rfl, hr, hb⟩; (try replace HA := Aside0.mk (HA.out.below hb)); (try replace HW := Aside0.mk (HW.out.below hb)); (try replace H3 := Aside0.mk (H3.out.below hb)); (try replace HXO := Aside0.mk (Kd.R_below HXO.out hb)); (try replace HGO := Aside0.mk (Kd.R_below HGO.out hb)); (try replace HBX := Aside0.mk (bthen HBX.out hb)); replace HB := Aside0.mk (bthen HB.out hb); have H3 := Aside0.mk (Sl.of_R hr); clear hr hb))
      | (go_at_call 52; ((with_reducible refine (laws_eqRowS vx v3 l l _ (Sl.of_R HXO.out) H3.out).mono ?_); rintro e w' ⟨rfl, hb⟩; (try replace HA := Aside0.mk (HA.out.below hb)); (try replace HW := Aside0.mk (HW.out.below hb)); (try replace H3 := Aside0.mk (H3.out.below hb)); (try replace HXO := Aside0.mk (Kd.R_below HXO.out hb)); (try replace HGO := Aside0.mk (Kd.R_below HGO.out hb)); (try replace HBX := Aside0.mk (bthen HBX.out hb)); replace HB := Aside0.mk (bthen HB.out hb); clear hb)))
    clear H3 HB HA HW
    have hk0 : ¬ (1 + 5 * (l.length : Int) < 0) := by omega
    go_upto_region 14 with (go_at_call 53; ((with_reducible refine (laws_markRowS (fun q => q < N) vx l 1 Wx _ HBX.out HXO.out (by omega) (by omega)).mono ?_); rintro e w4 ⟨rfl, hr, hb, hk⟩; replace HGO := Aside0.mk (Kd.R_kept HGO.out hk (fun q hq hq2 => by have : q < N := hq2; omega)); have HA := Aside0.mk (HA0.out.below hb); have HW := Aside0.mk (HW0.out.below hb); replace HBX := Aside0.mk hb; have HB := Aside0.mk (bthen HBW0.out hb); clear hr hb hk HXO))
    go_upto_region 17 with (first
      | (go_at_call 52; ((with_reducible refine (laws_eqRowS vg vw ts ts _ (Sl.of_R HGO.out) HW.out).mono ?_); rintro e w' ⟨rfl, hb⟩; (try replace HA := Aside0.mk (HA.out.below hb)); (try replace HW := Aside0.mk (HW.out.below hb)); (try replace HXO := Aside0.mk (Kd.R_below HXO.out hb)); (try replace HGO := Aside0.mk (Kd.R_below HGO.out hb)); (try replace HBX := Aside0.mk (bthen HBX.out hb)); replace HB := Aside0.mk (bthen HB.out hb); clear hb)))
    clear HB HA HW
    have hm1 : ¬ (1 + 5 * (ts.length : Int) < 0) := by omega
    go_upto_region 18 with (go_at_call 53; ((with_reducible refine (laws_markRowS (fun q => N ≤ q) vg ts 1 Wx _ HBX.out HGO.out (by omega) (by omega)).mono ?_); rintro e w5 ⟨rfl, hr, hb, hk⟩; replace HGO := Aside0.mk hr; have HA := Aside0.mk (HA0.out.below hb); have HW := Aside0.mk (HW0.out.below hb); replace HBX := Aside0.mk hb; have HB := Aside0.mk (bthen HBW0.out hb); clear hr hb hk))
    have HMA := Aside0.mk (marks_at ts.length)
    have HML := Aside0.mk (marks_len 1 ts.length)
    generalize marks 1 ts.length = ms at *
    have hml : ms.length ≤ 1000000 := by have := HML.out; omega
    have HD : ∀ W, Sl kRw W vg ms → Calls Try.prog 54 #[vg, .int .i64 1] W (RetV W (.int .i64 (1 + 5 * (ts.length : Int)))) := fun W h => by rw [← HML.out]; exact laws_heldRowS vg ms W h HMA.out hml
    go_wp2_with (first
      | (go_at_call 54; ((with_reducible refine (HD _ (Sl.of_R HGO.out)).mono ?_); rintro e w' ⟨rfl, hb⟩; (try replace HA := Aside0.mk (HA.out.below hb)); (try replace HW := Aside0.mk (HW.out.below hb)); (try replace H5 := Aside0.mk (H5.out.below hb)); (try replace HXO := Aside0.mk (Kd.R_below HXO.out hb)); (try replace HGO := Aside0.mk (Kd.R_below HGO.out hb)); (try replace HBX := Aside0.mk (bthen HBX.out hb)); replace HB := Aside0.mk (bthen HB.out hb); clear hb))
      | (go_at_call 75; ((with_reducible refine (laws_toRowS (.slice A0 l.length c0) l _ HA.out (by omega)).mono ?_); rintro e w' ⟨v5, rfl, hr, hb⟩; (try replace HA := Aside0.mk (HA.out.below hb)); (try replace HW := Aside0.mk (HW.out.below hb)); (try replace H5 := Aside0.mk (H5.out.below hb)); (try replace HXO := Aside0.mk (Kd.R_below HXO.out hb)); (try replace HGO := Aside0.mk (Kd.R_below HGO.out hb)); (try replace HBX := Aside0.mk (bthen HBX.out hb)); replace HB := Aside0.mk (bthen HB.out hb); have H5 := Aside0.mk (Sl.of_R hr); clear hr hb))
      | (go_at_call 60; ((with_reducible refine (impl_FlowSum v5 l key _ H5.out).mono ?_); rintro e w' ⟨vh, rfl, hr, hb⟩; (try replace HA := Aside0.mk (HA.out.below hb)); (try replace HW := Aside0.mk (HW.out.below hb)); (try replace H5 := Aside0.mk (H5.out.below hb)); (try replace HXO := Aside0.mk (Kd.R_below HXO.out hb)); (try replace HGO := Aside0.mk (Kd.R_below HGO.out hb)); (try replace HBX := Aside0.mk (bthen HBX.out hb)); replace HB := Aside0.mk (bthen HB.out hb); rw [← HTS.out] at hr; have H6 := Aside0.mk (Sl.of_R hr); clear hr hb))
      | (go_at_call 52; ((with_reducible refine (laws_eqRowS vh vw ts ts _ H6.out HW.out).mono ?_); rintro e w' ⟨rfl, hb⟩; (try replace HA := Aside0.mk (HA.out.below hb)); (try replace HW := Aside0.mk (HW.out.below hb)); (try replace H5 := Aside0.mk (H5.out.below hb)); (try replace HXO := Aside0.mk (Kd.R_below HXO.out hb)); (try replace HGO := Aside0.mk (Kd.R_below HGO.out hb)); (try replace HBX := Aside0.mk (bthen HBX.out hb)); replace HB := Aside0.mk (bthen HB.out hb); clear hb)))
    go_ret
    exact RetV.mk rfl HB.out
end Go.Proofs.Ythljcnlmeefcjaa.X

