/- Conditions: none. -/
import Derived.Test.YtkdendlgaaimbaaYSLwSp
import Derived.Test.YtkdendlgaaimbaaYSDrSu
import Derived.Test.YtkdendlgaaimbaaYSBytes
import Derived.RegionTactic
import Derived.BigRegion
namespace Go.Proofs.Ytkdendlgaaimbaa.X
open Go.RowKit Go.Proofs.YtkdendlgaaimbaaW.PrintWords Go.Proofs.YtkdendlgaaimbaaW.PrintLast
open List (setIfInBounds_toArray set_cons_zero set_cons_succ)
set_option linter.unusedVariables false
set_option linter.unusedSimpArgs false
theorem since_yes {ls : List (List Rw)} {f g : List Tm} (h : sinceB ls f g = true) : SpOk ls f ∧ SpOk ls g ∧ g ≠ [] ∧ (∀ t ∈ g, askOk f t = true) ∧ sinceL ls f g = ls ∧ sinceF ls f g = g := by
 have h0 := h
 unfold sinceB at h
 simp only [Bool.and_eq_true, List.all_eq_true] at h
 have h1 := spineOk_iff.1 h.1.1.1
 refine ⟨h1, ⟨h1.lay, h1.few, h1.rows, h.1.1.2⟩, fun e => ?_, h.2, if_pos h0, if_pos h0⟩
 have := h.1.2
 rw [e] at this
 simp at this
theorem below_tr {s t u : Tm} (h1 : below s t = true) (h2 : below t u = true) : below s u = true := by
 simp only [below, Bool.and_eq_true, decide_eq_true_eq] at h1 h2 ⊢
 omega
theorem since_may {ls : List (List Rw)} {f g : List Tm} (h : sinceB ls f g = true) (t : Tm) : spMay ls g t = (frontOk g && tOk t && beyond g t) := by
 obtain ⟨h1, h2, h3, h4, _⟩ := since_yes h
 unfold spMay askOk
 rw [spineOk_iff.2 h2, h2.front]
 cases g with
 | nil => exact absurd rfl h3
 | cons x g => rfl
theorem since_ask {ls : List (List Rw)} {f g : List Tm} (h : sinceB ls f g = true) (t : Tm) (ht : tOk t = true) (hm : spMay ls g t = true) : spMay ls f t = true ∧ spAt ls f t = spAt ls g t := by
 obtain ⟨h1, h2, h3, h4, _⟩ := since_yes h
 have hm2 := hm
 rw [since_may h t, h2.front, ht] at hm2
 have hb : beyond g t = true := hm2
 obtain ⟨s, hs, hst⟩ := List.any_eq_true.1 hb
 have hf : askOk f t = true := by
  rcases askOk_iff.1 (h4 s hs) with e | e
  ·exact askOk_iff.2 (.inl e)
  ·obtain ⟨r, hr, hrs⟩ := List.any_eq_true.1 e
   exact askOk_iff.2 (.inr (List.any_eq_true.2 ⟨r, hr, below_tr hrs hst⟩))
 have hl : spMay ls f t = true := by
  unfold spMay
  rw [spineOk_iff.2 h1, ht, hf]; rfl
 refine ⟨hl, ?_⟩
 unfold spAt
 rw [if_pos hl, if_pos hm]
def tb_laws_FnSpineSince_12.T : Bool × List (List Nat × List Nat) := (true, [([], []), ([], []), ([], []), ([1, 2], [1, 2]), ([3], [3]), ([0, 4], [0, 4]), ([5], [5]), ([6], [6]), ([6], [6]), ([7, 5, 0, 1, 2, 3, 4, 5, 6, 7], [7]), ([8, 9, 0, 1, 2, 3, 4, 5, 6, 7, 8, 9], [8])])
def tb_laws_FnSpineSince_12.B : List Nat := [0, 0, 0, 6, 14, 31, 63, 127, 127, 255, 1023]
theorem tb_laws_FnSpineSince_12.tab : rtab .any (opsOf Try.f9 12) = tb_laws_FnSpineSince_12.T := by kernel_rfl
theorem tb_laws_FnSpineSince_12.bits : waitsOk tb_laws_FnSpineSince_12.T.2 tb_laws_FnSpineSince_12.B = true := by kernel_rfl
set_option maxRecDepth 100000 in
set_option maxHeartbeats 4000000 in
theorem laws_FnSpineSince (v : Value) (l : List Int) (w : World) (h : IsBytes w v l) : Calls Try.prog 9 #[v] w (RetV w (.bool true)) := by
 have HOK := Aside0.mk allTm_ok
 have H := Aside0.mk h
 obtain ⟨⟨A, c, rfl, hc, hr⟩, hb⟩ := h
 have hm := Kd.C_max hr
 clear hr hb
 have HB := Aside0.mk (Below.refl w.heap.size w)
 go_enter Try.func9, Try.ntmps9
 by_cases hl : 1048576 < l.length
 ·have hl' : (l.length : Int) > 1048576 := by omega
  go_wp2
  go_ret
  exact RetV.mk rfl HB.out
 have hl' : ¬ (l.length : Int) > 1048576 := by omega
 go_upto_region 4 with (go_at_call 22; ((with_reducible refine (spec_DrawSpineSince (.slice A l.length c) l w H.out.sl H.out.by_).mono ?_); rintro e wa ⟨us, vs, vg, ls, f, g, rfl, h1, h2, hd, hgl, hbb⟩; obtain ⟨A1, c1, A2, c2, rfl, rfl⟩ := SpS.form h1; have HS := Aside0.mk h1; have HD := Aside0.mk hd; have HSB := Aside0.mk (SpD.b hd); have HV := Aside0.mk h2; have HGL := Aside0.mk (Nat.le_trans hgl (by decide) : g.length ≤ 1048576); replace HB := Aside0.mk hbb; clear h1 hd hbb h2))
 refine name_world fun W1 hW => ?_
 have BS_ : W1.heap[wa.heap.size]? = some (.cells #[.slice A1 ls.length c1, .slice A2 f.length c2] 26 (0, 0)) := by rw [hW]; exact blk_new wa _
 have hb1 : Below wa.heap.size wa W1 := by rw [hW]; repeat (first | exact Below.refl _ _ | apply below_alloc | refine below_set ?_ (by simp))
 clear hW
 generalize hS : wa.heap.size = S at BS_ ⊢
 (try replace HS := Aside0.mk (HS.out.below hb1))
 (try replace HV := Aside0.mk (HV.out.below hb1))
 (try replace HP := Aside0.mk (HP.out.below hb1))
 (try replace HX := Aside0.mk (HX.out.below hb1))
 (try replace HZ := Aside0.mk (HZ.out.below hb1))
 (try replace HW := Aside0.mk (HW.out.below hb1))
 (try replace BS := Aside0.mk (blk_below BS.out hb1))
 (try replace BP := Aside0.mk (blk_below BP.out hb1))
 (try replace BX := Aside0.mk (blk_below BX.out hb1))
 (try replace BZ := Aside0.mk (blk_below BZ.out hb1))
 (try replace BW := Aside0.mk (blk_below BW.out hb1))
 (try replace s0 := pw_cell_below hb1 s0)
 (try replace s1 := pw_cell_below hb1 s1)
 (try replace p0 := pw_cell_below hb1 p0)
 (try replace p1 := pw_cell_below hb1 p1)
 (try replace x0 := pw_cell_below hb1 x0)
 (try replace x1 := pw_cell_below hb1 x1)
 (try replace z0 := pw_cell_below hb1 z0)
 (try replace z1 := pw_cell_below hb1 z1)
 (try replace y0 := pw_cell_below hb1 y0)
 (try replace y1 := pw_cell_below hb1 y1)
 replace HB := Aside0.mk (bthen HB.out hb1)
 have BS := Aside0.mk BS_
 clear BS_ hS hb1
 have s0 := blk_cell BS.out 0
 have s1 := blk_cell BS.out 1
 obtain ⟨L, F, B, HLE, HCS, HCI⟩ : ∃ (L : List (List Rw)) (F : List Tm) (B : Bool), Aside0 (L = sinceL ls f g ∧ F = sinceF ls f g ∧ B = sinceB ls f g) ∧ Aside0 (∀ W, SpS W (.slice A1 ls.length c1) (.slice A2 f.length c2) ls f → (Sl kTm W vg g) → Calls Try.prog 23 #[.agg #[.slice A1 ls.length c1, .slice A2 f.length c2], vg] W (SpU W L F B)) ∧ Aside0 (∀ W, SpS W (.slice A1 ls.length c1) (.slice A2 f.length c2) ls f → (Sl kTm W vg g) → Calls Try.prog 17 #[.agg #[.slice A1 ls.length c1, .slice A2 f.length c2], vg] W (SpQ W L F B)) := ⟨_, _, _, ⟨rfl, rfl, rfl⟩, ⟨fun W hw hv => spec_SinceH (.slice A1 ls.length c1) (.slice A2 f.length c2) vg ls f g W hw hv HSB.out HGL.out⟩, ⟨fun W hw hv => impl_SpineSince (.slice A1 ls.length c1) (.slice A2 f.length c2) vg ls f g W hw hv HSB.out HGL.out⟩⟩
 have HXB : Aside0 (SpB L F) := ⟨by obtain ⟨e1, e2, e3⟩ := HLE.out; rw [e1, e2]; exact sinceSp HSB.out HGL.out⟩
 go_upto_region 5 with (go_at_call 23; ((with_reducible refine (HCS.out W1 HS.out HV.out).mono ?_); rintro e wb ⟨ua, va, rfl, hr, hb⟩; obtain ⟨A3, c3, A4, c4, rfl, rfl⟩ := SpS.form hr.s; have HP := Aside0.mk hr.s; (try replace HS := Aside0.mk (HS.out.below hb)); (try replace HV := Aside0.mk (HV.out.below hb)); (try replace HP := Aside0.mk (HP.out.below hb)); (try replace HX := Aside0.mk (HX.out.below hb)); (try replace HZ := Aside0.mk (HZ.out.below hb)); (try replace HW := Aside0.mk (HW.out.below hb)); (try replace BS := Aside0.mk (blk_below BS.out hb)); (try replace BP := Aside0.mk (blk_below BP.out hb)); (try replace BX := Aside0.mk (blk_below BX.out hb)); (try replace BZ := Aside0.mk (blk_below BZ.out hb)); (try replace BW := Aside0.mk (blk_below BW.out hb)); (try replace s0 := pw_cell_below hb s0); (try replace s1 := pw_cell_below hb s1); (try replace p0 := pw_cell_below hb p0); (try replace p1 := pw_cell_below hb p1); (try replace x0 := pw_cell_below hb x0); (try replace x1 := pw_cell_below hb x1); (try replace z0 := pw_cell_below hb z0); (try replace z1 := pw_cell_below hb z1); (try replace y0 := pw_cell_below hb y0); (try replace y1 := pw_cell_below hb y1); replace HB := Aside0.mk (bthen HB.out hb); clear hr hb))
 refine name_world fun W2 hW => ?_
 have BP_ : W2.heap[wb.heap.size]? = some (.cells #[.slice A3 L.length c3, .slice A4 F.length c4] 26 (0, 0)) := by rw [hW]; exact blk_new wb _
 have hb1 : Below wb.heap.size wb W2 := by rw [hW]; repeat (first | exact Below.refl _ _ | apply below_alloc | refine below_set ?_ (by simp))
 clear hW
 generalize hP : wb.heap.size = P at BP_ ⊢
 (try replace HS := Aside0.mk (HS.out.below hb1))
 (try replace HV := Aside0.mk (HV.out.below hb1))
 (try replace HP := Aside0.mk (HP.out.below hb1))
 (try replace HX := Aside0.mk (HX.out.below hb1))
 (try replace HZ := Aside0.mk (HZ.out.below hb1))
 (try replace HW := Aside0.mk (HW.out.below hb1))
 (try replace BS := Aside0.mk (blk_below BS.out hb1))
 (try replace BP := Aside0.mk (blk_below BP.out hb1))
 (try replace BX := Aside0.mk (blk_below BX.out hb1))
 (try replace BZ := Aside0.mk (blk_below BZ.out hb1))
 (try replace BW := Aside0.mk (blk_below BW.out hb1))
 (try replace s0 := pw_cell_below hb1 s0)
 (try replace s1 := pw_cell_below hb1 s1)
 (try replace p0 := pw_cell_below hb1 p0)
 (try replace p1 := pw_cell_below hb1 p1)
 (try replace x0 := pw_cell_below hb1 x0)
 (try replace x1 := pw_cell_below hb1 x1)
 (try replace z0 := pw_cell_below hb1 z0)
 (try replace z1 := pw_cell_below hb1 z1)
 (try replace y0 := pw_cell_below hb1 y0)
 (try replace y1 := pw_cell_below hb1 y1)
 replace HB := Aside0.mk (bthen HB.out hb1)
 have BP := Aside0.mk BP_
 clear BP_ hP hb1
 have p0 := blk_cell BP.out 0
 have p1 := blk_cell BP.out 1
 go_upto_region 6 with (go_at_call 17; ((with_reducible refine (HCI.out W2 HS.out HV.out).mono ?_); rintro e wc ⟨ua, va, rfl, hr, hb⟩; obtain ⟨A5, c5, A6, c6, rfl, rfl⟩ := SpS.form hr.s; have HX := Aside0.mk hr.s; (try replace HS := Aside0.mk (HS.out.below hb)); (try replace HV := Aside0.mk (HV.out.below hb)); (try replace HP := Aside0.mk (HP.out.below hb)); (try replace HX := Aside0.mk (HX.out.below hb)); (try replace HZ := Aside0.mk (HZ.out.below hb)); (try replace HW := Aside0.mk (HW.out.below hb)); (try replace BS := Aside0.mk (blk_below BS.out hb)); (try replace BP := Aside0.mk (blk_below BP.out hb)); (try replace BX := Aside0.mk (blk_below BX.out hb)); (try replace BZ := Aside0.mk (blk_below BZ.out hb)); (try replace BW := Aside0.mk (blk_below BW.out hb)); (try replace s0 := pw_cell_below hb s0); (try replace s1 := pw_cell_below hb s1); (try replace p0 := pw_cell_below hb p0); (try replace p1 := pw_cell_below hb p1); (try replace x0 := pw_cell_below hb x0); (try replace x1 := pw_cell_below hb x1); (try replace z0 := pw_cell_below hb z0); (try replace z1 := pw_cell_below hb z1); (try replace y0 := pw_cell_below hb y0); (try replace y1 := pw_cell_below hb y1); replace HB := Aside0.mk (bthen HB.out hb); clear hr hb))
 refine name_world fun W3 hW => ?_
 have BX_ : W3.heap[wc.heap.size]? = some (.cells #[.slice A5 L.length c5, .slice A6 F.length c6] 26 (0, 0)) := by rw [hW]; exact blk_new wc _
 have hb1 : Below wc.heap.size wc W3 := by rw [hW]; repeat (first | exact Below.refl _ _ | apply below_alloc | refine below_set ?_ (by simp))
 clear hW
 generalize hX : wc.heap.size = X at BX_ ⊢
 (try replace HS := Aside0.mk (HS.out.below hb1))
 (try replace HV := Aside0.mk (HV.out.below hb1))
 (try replace HP := Aside0.mk (HP.out.below hb1))
 (try replace HX := Aside0.mk (HX.out.below hb1))
 (try replace HZ := Aside0.mk (HZ.out.below hb1))
 (try replace HW := Aside0.mk (HW.out.below hb1))
 (try replace BS := Aside0.mk (blk_below BS.out hb1))
 (try replace BP := Aside0.mk (blk_below BP.out hb1))
 (try replace BX := Aside0.mk (blk_below BX.out hb1))
 (try replace BZ := Aside0.mk (blk_below BZ.out hb1))
 (try replace BW := Aside0.mk (blk_below BW.out hb1))
 (try replace s0 := pw_cell_below hb1 s0)
 (try replace s1 := pw_cell_below hb1 s1)
 (try replace p0 := pw_cell_below hb1 p0)
 (try replace p1 := pw_cell_below hb1 p1)
 (try replace x0 := pw_cell_below hb1 x0)
 (try replace x1 := pw_cell_below hb1 x1)
 (try replace z0 := pw_cell_below hb1 z0)
 (try replace z1 := pw_cell_below hb1 z1)
 (try replace y0 := pw_cell_below hb1 y0)
 (try replace y1 := pw_cell_below hb1 y1)
 replace HB := Aside0.mk (bthen HB.out hb1)
 have BX := Aside0.mk BX_
 clear BX_ hX hb1
 have x0 := blk_cell BX.out 0
 have x1 := blk_cell BX.out 1
 clear HCS HCI
 cases B
 ·go_wp2_with (go_at_call 20; ((with_reducible refine (laws_lwSpine (.slice A5 L.length c5) (.slice A6 F.length c6) (.slice A3 L.length c3) (.slice A4 F.length c4) L F _ HX.out HP.out).mono ?_); rintro e wd ⟨rfl, hb⟩; (try replace HS := Aside0.mk (HS.out.below hb)); (try replace HV := Aside0.mk (HV.out.below hb)); (try replace HP := Aside0.mk (HP.out.below hb)); (try replace HX := Aside0.mk (HX.out.below hb)); (try replace HZ := Aside0.mk (HZ.out.below hb)); (try replace HW := Aside0.mk (HW.out.below hb)); (try replace BS := Aside0.mk (blk_below BS.out hb)); (try replace BP := Aside0.mk (blk_below BP.out hb)); (try replace BX := Aside0.mk (blk_below BX.out hb)); (try replace BZ := Aside0.mk (blk_below BZ.out hb)); (try replace BW := Aside0.mk (blk_below BW.out hb)); (try replace s0 := pw_cell_below hb s0); (try replace s1 := pw_cell_below hb s1); (try replace p0 := pw_cell_below hb p0); (try replace p1 := pw_cell_below hb p1); (try replace x0 := pw_cell_below hb x0); (try replace x1 := pw_cell_below hb x1); (try replace z0 := pw_cell_below hb z0); (try replace z1 := pw_cell_below hb z1); (try replace y0 := pw_cell_below hb y0); (try replace y1 := pw_cell_below hb y1); replace HB := Aside0.mk (bthen HB.out hb); clear hb))
  go_ret
  exact RetV.mk rfl HB.out
 ·go_upto_region 8 with (go_at_call 20; ((with_reducible refine (laws_lwSpine (.slice A5 L.length c5) (.slice A6 F.length c6) (.slice A3 L.length c3) (.slice A4 F.length c4) L F _ HX.out HP.out).mono ?_); rintro e wd ⟨rfl, hb⟩; (try replace HS := Aside0.mk (HS.out.below hb)); (try replace HV := Aside0.mk (HV.out.below hb)); (try replace HP := Aside0.mk (HP.out.below hb)); (try replace HX := Aside0.mk (HX.out.below hb)); (try replace HZ := Aside0.mk (HZ.out.below hb)); (try replace HW := Aside0.mk (HW.out.below hb)); (try replace BS := Aside0.mk (blk_below BS.out hb)); (try replace BP := Aside0.mk (blk_below BP.out hb)); (try replace BX := Aside0.mk (blk_below BX.out hb)); (try replace BZ := Aside0.mk (blk_below BZ.out hb)); (try replace BW := Aside0.mk (blk_below BW.out hb)); (try replace s0 := pw_cell_below hb s0); (try replace s1 := pw_cell_below hb s1); (try replace p0 := pw_cell_below hb p0); (try replace p1 := pw_cell_below hb p1); (try replace x0 := pw_cell_below hb x0); (try replace x1 := pw_cell_below hb x1); (try replace z0 := pw_cell_below hb z0); (try replace z1 := pw_cell_below hb z1); (try replace y0 := pw_cell_below hb y0); (try replace y1 := pw_cell_below hb y1); replace HB := Aside0.mk (bthen HB.out hb); clear hb))
  obtain ⟨eL, eF, eB⟩ := HLE.out
  obtain ⟨_, _, _, _, e1, e2⟩ := since_yes eB.symm
  have HMay := Aside0.mk (since_may eB.symm)
  have HAsk := Aside0.mk (since_ask eB.symm)
  rw [e1] at eL
  rw [e2] at eF
  subst eL
  subst eF
  clear e1 e2 eB HLE BP HP p0 p1
  go_upto_region 9 with (go_at_call 35; ((with_reducible refine (laws_lwAll _).mono ?_); rintro e wf ⟨vl, rfl, hr, hb⟩; have HA := Aside0.mk (Sl.of_R hr); (try replace HS := Aside0.mk (HS.out.below hb)); (try replace HV := Aside0.mk (HV.out.below hb)); (try replace HP := Aside0.mk (HP.out.below hb)); (try replace HX := Aside0.mk (HX.out.below hb)); (try replace HZ := Aside0.mk (HZ.out.below hb)); (try replace HW := Aside0.mk (HW.out.below hb)); (try replace BS := Aside0.mk (blk_below BS.out hb)); (try replace BP := Aside0.mk (blk_below BP.out hb)); (try replace BX := Aside0.mk (blk_below BX.out hb)); (try replace BZ := Aside0.mk (blk_below BZ.out hb)); (try replace BW := Aside0.mk (blk_below BW.out hb)); (try replace s0 := pw_cell_below hb s0); (try replace s1 := pw_cell_below hb s1); (try replace p0 := pw_cell_below hb p0); (try replace p1 := pw_cell_below hb p1); (try replace x0 := pw_cell_below hb x0); (try replace x1 := pw_cell_below hb x1); (try replace z0 := pw_cell_below hb z0); (try replace z1 := pw_cell_below hb z1); (try replace y0 := pw_cell_below hb y0); (try replace y1 := pw_cell_below hb y1); replace HB := Aside0.mk (bthen HB.out hb); clear hr hb))
  obtain ⟨A3, c3, rfl, hc3, hC3⟩ := HA.out
  have hm3 := Kd.C_max hC3
  clear hC3 s0 s1 x0 x1
  generalize allTm = all at *
  go_wp2
  go_loopw [10] (fun i wr => ∃ k : Nat, k ≤ all.length ∧ i = .int .i64 k ∧ Aside0 (wr.heap[S]? = some (.cells #[.slice A1 L.length c1, .slice A2 f.length c2] 26 (0, 0))) ∧ Aside0 (wr.heap[X]? = some (.cells #[.slice A5 L.length c5, .slice A6 F.length c6] 26 (0, 0))) ∧ Aside0 (SpS wr (.slice A1 L.length c1) (.slice A2 f.length c2) L f) ∧ Aside0 (SpS wr (.slice A5 L.length c5) (.slice A6 F.length c6) L F) ∧ Aside0 (Sl kTm wr vg F) ∧ Aside0 (Sl kTm wr (.slice A3 all.length c3) all) ∧ Aside0 (Below w.heap.size w wr)) (fun i _ => all.length - (intOf i).toNat)
  case atStart => exact ⟨0, Nat.zero_le _, rfl, BS, BX, HS, HX, HV, HA, HB⟩
  case round =>
   clear BS BX HS HX HV HA HB
   obtain ⟨k, hk, rfl, BS, BX, HS, HX, HV, HA, HB⟩ := hrel
   by_cases hlt : k < all.length
   ·obtain ⟨A4, c4, e4, hc4, hC4⟩ := HA.out
    cases e4
    obtain ⟨ad, y, e, HYY, h0, h1⟩ := rdTm hC4 (Below.refl _ _) hlt
    cases e
    clear hC4
    obtain ⟨b2, l2, hCF, hCA⟩ : ∃ (b2 : Bool) (l2 : List It), (∀ W, Sl kTm W vg F → Calls Try.prog 30 #[vg, .agg #[.int .i64 y.f0, .int .i64 y.f1]] W (RetV W (.bool b2))) ∧ (∀ W, SpS W (.slice A5 L.length c5) (.slice A6 F.length c6) L F → Calls Try.prog 26 #[.agg #[.slice A5 L.length c5, .slice A6 F.length c6], .agg #[.int .i64 y.f0, .int .i64 y.f1]] W (AtP W l2 b2)) :=
     ⟨spMay L F y, spAt L F y, fun W hW => by rw [HMay.out y]; exact impl_FrontCovers vg F y W hW, fun W hW => impl_SpineAt _ _ L F y W hW HXB.out⟩
    have HCA := Aside0.mk hCA
    have HCF := Aside0.mk hCF
    clear hCA hCF
    go_upto_region 12 with fail
    have y0 : wr.drew.cell? ⟨X, 0, none⟩ = some (.slice A5 L.length c5) := blk_cell BX.out 0
    have y1 : wr.drew.cell? ⟨X, 1, none⟩ = some (.slice A6 F.length c6) := blk_cell BX.out 1
    replace h0 : wr.drew.cell? (ad.add (k * 2)) = some (.int .i64 y.f0) := h0
    replace h1 : wr.drew.cell? ⟨(ad.add (k * 2)).block, (ad.add (k * 2)).off + 1, none⟩ = some (.int .i64 y.f1) := h1
    refine start_ (n := 11) (S := fun w' => w'.cell? ⟨X, 0, none⟩ = some (.slice A5 L.length c5) ∧ w'.cell? ⟨X, 1, none⟩ = some (.slice A6 F.length c6) ∧ w'.cell? (ad.add (k * 2)) = some (.int .i64 y.f0) ∧ w'.cell? ⟨(ad.add (k * 2)).block, (ad.add (k * 2)).off + 1, none⟩ = some (.int .i64 y.f1)) (ds := []) #[false, false, false, false, false, false, false, false, false, false, false] (by kernel_rfl) rfl rfl ⟨y0, y1, h0, h1⟩ (fun hHeld => ?_)
    refine with_tabW tb_laws_FnSpineSince_12.tab tb_laws_FnSpineSince_12.bits (fun HT_ HW_ => ?_)
    refine pure_ (i := 1) (N := some 63) (v := ?_) (a' := ?_) #[false, true, false, false, false, false, false, false, false, false, false] rfl rfl (any_of HT_.out (by kernel_rfl)) (fun _ _ _ h => h) (Or.inl ⟨by rfl, ?_⟩) ?_ ?_
    rotate_left
    ·intro w'
     go_simp
     with_reducible rfl
    rotate_left
    ·simp only [Act.put, setIfInBounds_toArray, set_cons_zero, set_cons_succ, i64_w]
     rfl
    refine pure_ (i := 2) (N := some 64) (v := ?_) (a' := ?_) #[false, true, true, false, false, false, false, false, false, false, false] rfl rfl (any_of HT_.out (by kernel_rfl)) (fun _ _ _ h => h) (Or.inl ⟨by rfl, ?_⟩) ?_ ?_
    rotate_left
    ·intro w'
     go_simp
     with_reducible rfl
    rotate_left
    ·simp only [Act.put, setIfInBounds_toArray, set_cons_zero, set_cons_succ, i64_w]
     rfl
    refine pure_ (i := 3) (N := some 65) (v := ?_) (a' := ?_) #[false, true, true, true, false, false, false, false, false, false, false] rfl rfl (any_of HT_.out (by kernel_rfl)) (fun _ _ _ h => h) (Or.inl ⟨by rfl, ?_⟩) ?_ ?_
    rotate_left
    ·intro w'
     go_simp
     with_reducible rfl
    rotate_left
    ·simp only [Act.put, setIfInBounds_toArray, set_cons_zero, set_cons_succ, i64_w]
     rfl
    refine take_ (i := 0) (N := some 62) (v := ?_) (a' := ?_) #[true, true, true, true, false, false, false, false, false, false, false] rfl rfl (take_ofW HT_.out HW_.out (by kernel_rfl)) (fun _ _ _ h => h) (Or.inl ⟨by rfl, ?_⟩) hHeld ?_ ?_
    rotate_left
    ·rintro w' ⟨s0, s1, s2, s3⟩
     go_simp
     with_reducible rfl
    rotate_left
    ·simp only [Act.put, setIfInBounds_toArray, set_cons_zero, set_cons_succ, i64_w]
     rfl
    refine take_ (i := 4) (N := some 66) (v := ?_) (a' := ?_) #[true, true, true, true, true, false, false, false, false, false, false] rfl rfl (take_ofW HT_.out HW_.out (by kernel_rfl)) (fun _ _ _ h => h) (Or.inl ⟨by rfl, ?_⟩) hHeld ?_ ?_
    rotate_left
    ·rintro w' ⟨s0, s1, s2, s3⟩
     go_simp
     with_reducible rfl
    rotate_left
    ·simp only [Act.put, setIfInBounds_toArray, set_cons_zero, set_cons_succ, i64_w]
     rfl
    refine one_ (i := 5) (N := some 67) #[true, true, true, true, true, true, false, false, false, false, false] rfl rfl (one_of HT_.out (by kernel_rfl)) (by decide) (fun K hK => ?_)
    refine goes_ Try.func26 (by kernel_rfl) rfl #[.agg #[.slice A5 L.length c5, .slice A6 F.length c6], .agg #[.int .i64 y.f0, .int .i64 y.f1]] (by rfl) rfl rfl (by simp only [List.map_toArray, List.map_cons, List.map_nil]; rfl) ?_
    with_reducible refine (HCA.out _ (HX.out.below (below_drew (Below.refl _ _)))).mono ?_
    rintro e w6 ⟨va, rfl, hr6, hb0⟩
    refine ⟨_, rfl, ?_⟩
    have hb6 := bthen (below_drew (Below.refl wr.heap.size wr)) hb0
    replace BS := Aside0.mk (blk_below BS.out hb6)
    replace BX := Aside0.mk (blk_below BX.out hb6)
    replace HS := Aside0.mk (HS.out.below hb6)
    replace HX := Aside0.mk (HX.out.below hb6)
    replace HV := Aside0.mk (HV.out.below hb6)
    replace HA := Aside0.mk (HA.out.below hb6)
    replace HB := Aside0.mk (bthen HB.out hb6)
    clear hr6
    refine hK.out _ _ ⟨pw_cell_below hb0 y0, pw_cell_below hb0 y1, pw_cell_below hb0 h0, pw_cell_below hb0 h1⟩ (fun hHeld => ?_)
    clear hK K
    refine norm_ (a' := ?_) ?_ ?_
    rotate_left
    ·show Act.put _ (some 67) _ = _
     simp only [Act.put, setIfInBounds_toArray, set_cons_zero, set_cons_succ, i64_w]
     rfl
    refine pure_ (i := 6) (N := some 61) (v := ?_) (a' := ?_) #[true, true, true, true, true, true, true, false, false, false, false] rfl rfl (any_of HT_.out (by kernel_rfl)) (fun _ _ _ h => h) (Or.inl ⟨by rfl, ?_⟩) ?_ ?_
    rotate_left
    ·intro w'
     go_simp
     with_reducible rfl
    rotate_left
    ·simp only [Act.put, setIfInBounds_toArray, set_cons_zero, set_cons_succ, i64_w]
     rfl
    refine pure_ (i := 7) (N := some 68) (v := ?_) (a' := ?_) #[true, true, true, true, true, true, true, true, false, false, false] rfl rfl (any_of HT_.out (by kernel_rfl)) (fun _ _ _ h => h) (Or.inl ⟨by rfl, ?_⟩) ?_ ?_
    rotate_left
    ·intro w'
     go_simp
     with_reducible rfl
    rotate_left
    ·simp only [Act.put, setIfInBounds_toArray, set_cons_zero, set_cons_succ, i64_w]
     rfl
    refine pure_ (i := 8) (N := some 69) (v := ?_) (a' := ?_) #[true, true, true, true, true, true, true, true, true, false, false] rfl rfl (any_of HT_.out (by kernel_rfl)) (fun _ _ _ h => h) (Or.inl ⟨by rfl, ?_⟩) ?_ ?_
    rotate_left
    ·intro w'
     go_simp
     with_reducible rfl
    rotate_left
    ·simp only [Act.put, setIfInBounds_toArray, set_cons_zero, set_cons_succ, i64_w]
     rfl
    refine pure_ (i := 9) (N := some 11) (v := ?_) (a' := ?_) #[true, true, true, true, true, true, true, true, true, true, false] rfl rfl (any_of HT_.out (by kernel_rfl)) (fun _ _ _ h => h) (Or.inl ⟨by rfl, ?_⟩) ?_ ?_
    rotate_left
    ·intro w'
     go_simp
     with_reducible rfl
    rotate_left
    ·simp only [Act.put, setIfInBounds_toArray, set_cons_zero, set_cons_succ, i64_w]
     rfl
    refine pure_ (i := 10) (N := some 12) (v := ?_) (a' := ?_) #[true, true, true, true, true, true, true, true, true, true, true] rfl rfl (any_of HT_.out (by kernel_rfl)) (fun _ _ _ h => h) (Or.inl ⟨by rfl, ?_⟩) ?_ ?_
    rotate_left
    ·intro w'
     go_simp
     with_reducible rfl
    rotate_left
    ·simp only [Act.put, setIfInBounds_toArray, set_cons_zero, set_cons_succ, i64_w]
     rfl
    refine done_ (done_of HT_.out (by kernel_rfl)) ?_
    obtain ⟨z1, z2, z3, z4⟩ := hHeld
    clear hHeld HT_ HW_ hb0 hb6 y0 y1 h0 h1 z1 z2
    cases b2
    all_goals
     go_wp2_with (go_at_call 30; ((with_reducible refine (HCF.out _ HV.out).mono ?_); rintro e w7 ⟨rfl, hb⟩; replace BS := Aside0.mk (blk_below BS.out hb); replace BX := Aside0.mk (blk_below BX.out hb); replace HS := Aside0.mk (HS.out.below hb); replace HX := Aside0.mk (HX.out.below hb); replace HV := Aside0.mk (HV.out.below hb); replace HA := Aside0.mk (HA.out.below hb); replace HB := Aside0.mk (bthen HB.out hb); clear hb))
     go_roundw
     case rel => exact ⟨k + 1, by omega, by go_num, BS, BX, HS, HX, HV, HA, HB⟩
     case measure => simp [intOf]; omega
   ·have s0 := blk_cell BS.out 0
    have s1 := blk_cell BS.out 1
    have x0 := blk_cell BX.out 0
    have x1 := blk_cell BX.out 1
    go_wp2_with (go_at_call 44; ((with_reducible refine (laws_lwAsk (.slice A1 L.length c1) (.slice A2 f.length c2) (.slice A5 L.length c5) (.slice A6 F.length c6) L L f F _ HS.out HX.out HSB.out HXB.out HAsk.out).mono ?_); rintro e w9 ⟨rfl, hb⟩; replace HB := Aside0.mk (bthen HB.out hb); clear hb))
    go_ret
    exact RetV.mk rfl HB.out
end Go.Proofs.Ytkdendlgaaimbaa.X
