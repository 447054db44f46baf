/- Conditions: none. -/
import Derived.Test.YtkdendlgaaimbaaGreatYILwSp
import Derived.Test.YtkdendlgaaimbaaGreatYIDrSt
import Derived.Test.YtkdendlgaaimbaaGreatYIBytes
import Derived.RegionTactic
import Derived.BigRegion
namespace Go.Proofs.YtkdendlgaaimbaaGreat.X
open Go.RowKit Go.Proofs.YtkdendlgaaimbaaGreatW.PrintWords Go.Proofs.YtkdendlgaaimbaaGreatW.PrintLast
open List (setIfInBounds_toArray set_cons_zero set_cons_succ)
set_option linter.unusedVariables false
set_option linter.unusedSimpArgs false
theorem in_ask {ls : List (List Rw)} {f : List Tm} {b : List Rw} (h : inB ls f b = true) (t : Tm) (ht : tOk t = true) : spMay (inL ls f b) f t = spMay ls f t ∧ (spMay ls f t = true → spAt (inL ls f b) f t = setBoth (spAt ls f t) (batchAt b t)) := by
 obtain ⟨h1, h2, h3, h4, h5⟩ := inB_iff.1 h
 have e1 : inL ls f b = inBase ls f ++ [b] := if_pos h
 have hm : spMay (inL ls f b) f t = spMay ls f t := by
  unfold spMay
  rw [e1, spineOk_iff.2 h1, spineOk_iff.2 h5]
 refine ⟨hm, fun hy => ?_⟩
 have ha : askOk f t = true := by
  have hz := hy
  unfold spMay at hz
  simp only [Bool.and_eq_true] at hz
  exact hz.2
 unfold spAt
 rw [hm, if_pos hy, if_pos hy]
 exact spineIn_at h ht ha
def tb_laws_FnSpineIn_12.T : Bool × List (List Nat × List Nat) := (true, [([], []), ([], []), ([], []), ([1, 2], [1, 2]), ([3], [3]), ([0, 4], [0, 4]), ([5], [5]), ([6], [6]), ([6], [6]), ([7, 5, 0, 1, 2, 3, 4, 5, 6, 7], [7]), ([8, 9, 0, 1, 2, 3, 4, 5, 6, 7, 8, 9], [8])])
def tb_laws_FnSpineIn_12.B : List Nat := [0, 0, 0, 6, 14, 31, 63, 127, 127, 255, 1023]
theorem tb_laws_FnSpineIn_12.tab : rtab .any (opsOf Tryz.f3 12) = tb_laws_FnSpineIn_12.T := by kernel_rfl
theorem tb_laws_FnSpineIn_12.bits : waitsOk tb_laws_FnSpineIn_12.T.2 tb_laws_FnSpineIn_12.B = true := by kernel_rfl
def tb_laws_FnSpineIn_13.T : Bool × List (List Nat × List Nat) := (true, [([], []), ([], []), ([], []), ([1, 2], [1, 2]), ([3], [3]), ([0, 4], [0, 4]), ([5], [5]), ([6], [6]), ([6], [6]), ([7, 5, 0, 1, 2, 3, 4, 5, 6, 7], [7]), ([8, 9, 0, 1, 2, 3, 4, 5, 6, 7, 8, 9], [8])])
def tb_laws_FnSpineIn_13.B : List Nat := [0, 0, 0, 6, 14, 31, 63, 127, 127, 255, 1023]
theorem tb_laws_FnSpineIn_13.tab : rtab .any (opsOf Tryz.f3 13) = tb_laws_FnSpineIn_13.T := by kernel_rfl
theorem tb_laws_FnSpineIn_13.bits : waitsOk tb_laws_FnSpineIn_13.T.2 tb_laws_FnSpineIn_13.B = true := by kernel_rfl
set_option maxRecDepth 100000 in
set_option maxHeartbeats 4000000 in
theorem laws_FnSpineIn (v : Value) (l : List Int) (w : World) (h : IsBytes w v l) : Calls Tryz.prog 3 #[v] w (RetV w (.bool true)) := by
 have HOK := Aside0.mk allTm_ok
 have H := Aside0.mk h
 obtain ⟨⟨A, c, rfl, hc, hr⟩, hb⟩ := h
 have hm := Kd.C_max hr
 clear hr hb
 have HB := Aside0.mk (Below.refl w.heap.size w)
 go_enter Tryz.func3, Tryz.ntmps3
 by_cases hl : 1048576 < l.length
 ·have hl' : (l.length : Int) > 1048576 := by omega
  go_wp2
  go_ret
  exact RetV.mk rfl HB.out
 have hl' : ¬ (l.length : Int) > 1048576 := by omega
 go_upto_region 4 with (go_at_call 6; ((with_reducible refine (spec_DrawSpineIn (.slice A l.length c) l w H.out.sl H.out.by_).mono ?_); rintro e wa ⟨us, vs, vb, ls, f, b, rfl, h1, h2, hd, hbl, hbb⟩; obtain ⟨A1, c1, A2, c2, rfl, rfl⟩ := SpS.form h1; have HS := Aside0.mk h1; have HD := Aside0.mk hd; have HSB := Aside0.mk (SpD.b hd); have HV := Aside0.mk h2; have HBL := Aside0.mk (Nat.le_trans hbl (by decide) : b.length ≤ 1048576); replace HB := Aside0.mk hbb; clear h1 hd hbb h2))
 refine name_world fun W1 hW => ?_
 have BS_ : W1.heap[wa.heap.size]? = some (.cells #[.slice A1 ls.length c1, .slice A2 f.length c2] 26 (0, 0)) := by rw [hW]; exact blk_new wa _
 have hb1 : Below wa.heap.size wa W1 := by rw [hW]; repeat (first | exact Below.refl _ _ | apply below_alloc | refine below_set ?_ (by simp))
 clear hW
 generalize hS : wa.heap.size = S at BS_ ⊢
 (try replace HS := Aside0.mk (HS.out.below hb1))
 (try replace HV := Aside0.mk (HV.out.below hb1))
 (try replace HP := Aside0.mk (HP.out.below hb1))
 (try replace HX := Aside0.mk (HX.out.below hb1))
 (try replace HZ := Aside0.mk (HZ.out.below hb1))
 (try replace HW := Aside0.mk (HW.out.below hb1))
 (try replace BS := Aside0.mk (blk_below BS.out hb1))
 (try replace BP := Aside0.mk (blk_below BP.out hb1))
 (try replace BX := Aside0.mk (blk_below BX.out hb1))
 (try replace BZ := Aside0.mk (blk_below BZ.out hb1))
 (try replace BW := Aside0.mk (blk_below BW.out hb1))
 (try replace s0 := pw_cell_below hb1 s0)
 (try replace s1 := pw_cell_below hb1 s1)
 (try replace p0 := pw_cell_below hb1 p0)
 (try replace p1 := pw_cell_below hb1 p1)
 (try replace x0 := pw_cell_below hb1 x0)
 (try replace x1 := pw_cell_below hb1 x1)
 (try replace z0 := pw_cell_below hb1 z0)
 (try replace z1 := pw_cell_below hb1 z1)
 (try replace y0 := pw_cell_below hb1 y0)
 (try replace y1 := pw_cell_below hb1 y1)
 replace HB := Aside0.mk (bthen HB.out hb1)
 have BS := Aside0.mk BS_
 clear BS_ hS hb1
 have s0 := blk_cell BS.out 0
 have s1 := blk_cell BS.out 1
 obtain ⟨L, F, B, HLE, HCS, HCI⟩ : ∃ (L : List (List Rw)) (F : List Tm) (B : Bool), Aside0 (L = inL ls f b ∧ F = inF ls f b ∧ B = inB ls f b) ∧ Aside0 (∀ W, SpS W (.slice A1 ls.length c1) (.slice A2 f.length c2) ls f → (Sl kRw W vb b) → Calls Tryz.prog 7 #[.agg #[.slice A1 ls.length c1, .slice A2 f.length c2], vb] W (SpU W L F B)) ∧ Aside0 (∀ W, SpS W (.slice A1 ls.length c1) (.slice A2 f.length c2) ls f → (Sl kRw W vb b) → Calls Tryz.prog 8 #[.agg #[.slice A1 ls.length c1, .slice A2 f.length c2], vb] W (SpQ W L F B)) := ⟨_, _, _, ⟨rfl, rfl, rfl⟩, ⟨fun W hw hv => spec_SpineIn (.slice A1 ls.length c1) (.slice A2 f.length c2) vb ls f b W hw hv HSB.out HBL.out⟩, ⟨fun W hw hv => impl_SpineIn (.slice A1 ls.length c1) (.slice A2 f.length c2) vb ls f b W hw hv HSB.out HBL.out⟩⟩
 have HXB : Aside0 (SpB L F) := ⟨by obtain ⟨e1, e2, e3⟩ := HLE.out; rw [e1, e2]; exact inSp HSB.out HBL.out⟩
 go_upto_region 5 with (go_at_call 7; ((with_reducible refine (HCS.out W1 HS.out HV.out).mono ?_); rintro e wb ⟨ua, va, rfl, hr, hb⟩; obtain ⟨A3, c3, A4, c4, rfl, rfl⟩ := SpS.form hr.s; have HP := Aside0.mk hr.s; (try replace HS := Aside0.mk (HS.out.below hb)); (try replace HV := Aside0.mk (HV.out.below hb)); (try replace HP := Aside0.mk (HP.out.below hb)); (try replace HX := Aside0.mk (HX.out.below hb)); (try replace HZ := Aside0.mk (HZ.out.below hb)); (try replace HW := Aside0.mk (HW.out.below hb)); (try replace BS := Aside0.mk (blk_below BS.out hb)); (try replace BP := Aside0.mk (blk_below BP.out hb)); (try replace BX := Aside0.mk (blk_below BX.out hb)); (try replace BZ := Aside0.mk (blk_below BZ.out hb)); (try replace BW := Aside0.mk (blk_below BW.out hb)); (try replace s0 := pw_cell_below hb s0); (try replace s1 := pw_cell_below hb s1); (try replace p0 := pw_cell_below hb p0); (try replace p1 := pw_cell_below hb p1); (try replace x0 := pw_cell_below hb x0); (try replace x1 := pw_cell_below hb x1); (try replace z0 := pw_cell_below hb z0); (try replace z1 := pw_cell_below hb z1); (try replace y0 := pw_cell_below hb y0); (try replace y1 := pw_cell_below hb y1); replace HB := Aside0.mk (bthen HB.out hb); clear hr hb))
 refine name_world fun W2 hW => ?_
 have BP_ : W2.heap[wb.heap.size]? = some (.cells #[.slice A3 L.length c3, .slice A4 F.length c4] 26 (0, 0)) := by rw [hW]; exact blk_new wb _
 have hb1 : Below wb.heap.size wb W2 := by rw [hW]; repeat (first | exact Below.refl _ _ | apply below_alloc | refine below_set ?_ (by simp))
 clear hW
 generalize hP : wb.heap.size = P at BP_ ⊢
 (try replace HS := Aside0.mk (HS.out.below hb1))
 (try replace HV := Aside0.mk (HV.out.below hb1))
 (try replace HP := Aside0.mk (HP.out.below hb1))
 (try replace HX := Aside0.mk (HX.out.below hb1))
 (try replace HZ := Aside0.mk (HZ.out.below hb1))
 (try replace HW := Aside0.mk (HW.out.below hb1))
 (try replace BS := Aside0.mk (blk_below BS.out hb1))
 (try replace BP := Aside0.mk (blk_below BP.out hb1))
 (try replace BX := Aside0.mk (blk_below BX.out hb1))
 (try replace BZ := Aside0.mk (blk_below BZ.out hb1))
 (try replace BW := Aside0.mk (blk_below BW.out hb1))
 (try replace s0 := pw_cell_below hb1 s0)
 (try replace s1 := pw_cell_below hb1 s1)
 (try replace p0 := pw_cell_below hb1 p0)
 (try replace p1 := pw_cell_below hb1 p1)
 (try replace x0 := pw_cell_below hb1 x0)
 (try replace x1 := pw_cell_below hb1 x1)
 (try replace z0 := pw_cell_below hb1 z0)
 (try replace z1 := pw_cell_below hb1 z1)
 (try replace y0 := pw_cell_below hb1 y0)
 (try replace y1 := pw_cell_below hb1 y1)
 replace HB := Aside0.mk (bthen HB.out hb1)
 have BP := Aside0.mk BP_
 clear BP_ hP hb1
 have p0 := blk_cell BP.out 0
 have p1 := blk_cell BP.out 1
 go_upto_region 6 with (go_at_call 8; ((with_reducible refine (HCI.out W2 HS.out HV.out).mono ?_); rintro e wc ⟨ua, va, rfl, hr, hb⟩; obtain ⟨A5, c5, A6, c6, rfl, rfl⟩ := SpS.form hr.s; have HX := Aside0.mk hr.s; (try replace HS := Aside0.mk (HS.out.below hb)); (try replace HV := Aside0.mk (HV.out.below hb)); (try replace HP := Aside0.mk (HP.out.below hb)); (try replace HX := Aside0.mk (HX.out.below hb)); (try replace HZ := Aside0.mk (HZ.out.below hb)); (try replace HW := Aside0.mk (HW.out.below hb)); (try replace BS := Aside0.mk (blk_below BS.out hb)); (try replace BP := Aside0.mk (blk_below BP.out hb)); (try replace BX := Aside0.mk (blk_below BX.out hb)); (try replace BZ := Aside0.mk (blk_below BZ.out hb)); (try replace BW := Aside0.mk (blk_below BW.out hb)); (try replace s0 := pw_cell_below hb s0); (try replace s1 := pw_cell_below hb s1); (try replace p0 := pw_cell_below hb p0); (try replace p1 := pw_cell_below hb p1); (try replace x0 := pw_cell_below hb x0); (try replace x1 := pw_cell_below hb x1); (try replace z0 := pw_cell_below hb z0); (try replace z1 := pw_cell_below hb z1); (try replace y0 := pw_cell_below hb y0); (try replace y1 := pw_cell_below hb y1); replace HB := Aside0.mk (bthen HB.out hb); clear hr hb))
 refine name_world fun W3 hW => ?_
 have BX_ : W3.heap[wc.heap.size]? = some (.cells #[.slice A5 L.length c5, .slice A6 F.length c6] 26 (0, 0)) := by rw [hW]; exact blk_new wc _
 have hb1 : Below wc.heap.size wc W3 := by rw [hW]; repeat (first | exact Below.refl _ _ | apply below_alloc | refine below_set ?_ (by simp))
 clear hW
 generalize hX : wc.heap.size = X at BX_ ⊢
 (try replace HS := Aside0.mk (HS.out.below hb1))
 (try replace HV := Aside0.mk (HV.out.below hb1))
 (try replace HP := Aside0.mk (HP.out.below hb1))
 (try replace HX := Aside0.mk (HX.out.below hb1))
 (try replace HZ := Aside0.mk (HZ.out.below hb1))
 (try replace HW := Aside0.mk (HW.out.below hb1))
 (try replace BS := Aside0.mk (blk_below BS.out hb1))
 (try replace BP := Aside0.mk (blk_below BP.out hb1))
 (try replace BX := Aside0.mk (blk_below BX.out hb1))
 (try replace BZ := Aside0.mk (blk_below BZ.out hb1))
 (try replace BW := Aside0.mk (blk_below BW.out hb1))
 (try replace s0 := pw_cell_below hb1 s0)
 (try replace s1 := pw_cell_below hb1 s1)
 (try replace p0 := pw_cell_below hb1 p0)
 (try replace p1 := pw_cell_below hb1 p1)
 (try replace x0 := pw_cell_below hb1 x0)
 (try replace x1 := pw_cell_below hb1 x1)
 (try replace z0 := pw_cell_below hb1 z0)
 (try replace z1 := pw_cell_below hb1 z1)
 (try replace y0 := pw_cell_below hb1 y0)
 (try replace y1 := pw_cell_below hb1 y1)
 replace HB := Aside0.mk (bthen HB.out hb1)
 have BX := Aside0.mk BX_
 clear BX_ hX hb1
 have x0 := blk_cell BX.out 0
 have x1 := blk_cell BX.out 1
 clear HCS HCI
 cases B
 ·go_wp2_with (go_at_call 9; ((with_reducible refine (laws_lwSpine (.slice A5 L.length c5) (.slice A6 F.length c6) (.slice A3 L.length c3) (.slice A4 F.length c4) L F _ HX.out HP.out).mono ?_); rintro e wd ⟨rfl, hb⟩; (try replace HS := Aside0.mk (HS.out.below hb)); (try replace HV := Aside0.mk (HV.out.below hb)); (try replace HP := Aside0.mk (HP.out.below hb)); (try replace HX := Aside0.mk (HX.out.below hb)); (try replace HZ := Aside0.mk (HZ.out.below hb)); (try replace HW := Aside0.mk (HW.out.below hb)); (try replace BS := Aside0.mk (blk_below BS.out hb)); (try replace BP := Aside0.mk (blk_below BP.out hb)); (try replace BX := Aside0.mk (blk_below BX.out hb)); (try replace BZ := Aside0.mk (blk_below BZ.out hb)); (try replace BW := Aside0.mk (blk_below BW.out hb)); (try replace s0 := pw_cell_below hb s0); (try replace s1 := pw_cell_below hb s1); (try replace p0 := pw_cell_below hb p0); (try replace p1 := pw_cell_below hb p1); (try replace x0 := pw_cell_below hb x0); (try replace x1 := pw_cell_below hb x1); (try replace z0 := pw_cell_below hb z0); (try replace z1 := pw_cell_below hb z1); (try replace y0 := pw_cell_below hb y0); (try replace y1 := pw_cell_below hb y1); replace HB := Aside0.mk (bthen HB.out hb); clear hb))
  go_ret
  exact RetV.mk rfl HB.out
 ·go_upto_region 8 with (go_at_call 9; ((with_reducible refine (laws_lwSpine (.slice A5 L.length c5) (.slice A6 F.length c6) (.slice A3 L.length c3) (.slice A4 F.length c4) L F _ HX.out HP.out).mono ?_); rintro e wd ⟨rfl, hb⟩; (try replace HS := Aside0.mk (HS.out.below hb)); (try replace HV := Aside0.mk (HV.out.below hb)); (try replace HP := Aside0.mk (HP.out.below hb)); (try replace HX := Aside0.mk (HX.out.below hb)); (try replace HZ := Aside0.mk (HZ.out.below hb)); (try replace HW := Aside0.mk (HW.out.below hb)); (try replace BS := Aside0.mk (blk_below BS.out hb)); (try replace BP := Aside0.mk (blk_below BP.out hb)); (try replace BX := Aside0.mk (blk_below BX.out hb)); (try replace BZ := Aside0.mk (blk_below BZ.out hb)); (try replace BW := Aside0.mk (blk_below BW.out hb)); (try replace s0 := pw_cell_below hb s0); (try replace s1 := pw_cell_below hb s1); (try replace p0 := pw_cell_below hb p0); (try replace p1 := pw_cell_below hb p1); (try replace x0 := pw_cell_below hb x0); (try replace x1 := pw_cell_below hb x1); (try replace z0 := pw_cell_below hb z0); (try replace z1 := pw_cell_below hb z1); (try replace y0 := pw_cell_below hb y0); (try replace y1 := pw_cell_below hb y1); replace HB := Aside0.mk (bthen HB.out hb); clear hb))
  obtain ⟨eL, eF, eB⟩ := HLE.out
  have HIA := Aside0.mk (in_ask eB.symm)
  rw [show inF ls f b = f from if_pos eB.symm] at eF
  rw [← eL] at HIA
  subst eF
  clear eL eB HLE BP HP p0 p1
  go_upto_region 9 with (go_at_call 10; ((with_reducible refine (laws_lwAll _).mono ?_); rintro e wf ⟨vl, rfl, hr, hb⟩; have HA := Aside0.mk (Sl.of_R hr); (try replace HS := Aside0.mk (HS.out.below hb)); (try replace HV := Aside0.mk (HV.out.below hb)); (try replace HP := Aside0.mk (HP.out.below hb)); (try replace HX := Aside0.mk (HX.out.below hb)); (try replace HZ := Aside0.mk (HZ.out.below hb)); (try replace HW := Aside0.mk (HW.out.below hb)); (try replace BS := Aside0.mk (blk_below BS.out hb)); (try replace BP := Aside0.mk (blk_below BP.out hb)); (try replace BX := Aside0.mk (blk_below BX.out hb)); (try replace BZ := Aside0.mk (blk_below BZ.out hb)); (try replace BW := Aside0.mk (blk_below BW.out hb)); (try replace s0 := pw_cell_below hb s0); (try replace s1 := pw_cell_below hb s1); (try replace p0 := pw_cell_below hb p0); (try replace p1 := pw_cell_below hb p1); (try replace x0 := pw_cell_below hb x0); (try replace x1 := pw_cell_below hb x1); (try replace z0 := pw_cell_below hb z0); (try replace z1 := pw_cell_below hb z1); (try replace y0 := pw_cell_below hb y0); (try replace y1 := pw_cell_below hb y1); replace HB := Aside0.mk (bthen HB.out hb); clear hr hb))
  obtain ⟨A3', c3', rfl, hc3, hC3⟩ := HA.out
  have hm3 := Kd.C_max hC3
  clear hC3 s0 s1 x0 x1
  generalize allTm = all at *
  go_wp2
  go_loopw [10] (fun i wr => ∃ k : Nat, k ≤ all.length ∧ i = .int .i64 k ∧ Aside0 (wr.heap[S]? = some (.cells #[.slice A1 ls.length c1, .slice A2 F.length c2] 26 (0, 0))) ∧ Aside0 (wr.heap[X]? = some (.cells #[.slice A5 L.length c5, .slice A6 F.length c6] 26 (0, 0))) ∧ Aside0 (SpS wr (.slice A1 ls.length c1) (.slice A2 F.length c2) ls F) ∧ Aside0 (SpS wr (.slice A5 L.length c5) (.slice A6 F.length c6) L F) ∧ Aside0 (Sl kRw wr vb b) ∧ Aside0 (Sl kTm wr (.slice A3' all.length c3') all) ∧ Aside0 (Below w.heap.size w wr)) (fun i _ => all.length - (intOf i).toNat)
  case atStart => exact ⟨0, Nat.zero_le _, rfl, BS, BX, HS, HX, HV, HA, HB⟩
  case round =>
   clear BS BX HS HX HV HA HB
   obtain ⟨k, hk, rfl, BS, BX, HS, HX, HV, HA, HB⟩ := hrel
   by_cases hlt : k < all.length
   ·obtain ⟨A4', c4', e4, hc4, hC4⟩ := HA.out
    cases e4
    obtain ⟨ad, y, e, HYY, h0, h1⟩ := rdTm hC4 (Below.refl _ _) hlt
    cases e
    clear hC4
    have hy := HOK.out y (List.mem_of_getElem? HYY.out)
    obtain ⟨b1, l1, l2, hbb, hCA, hCB⟩ : ∃ (b1 : Bool) (l1 l2 : List It), (b1 = true → l2 = setBoth l1 (batchAt b y)) ∧ (∀ W, SpS W (.slice A1 ls.length c1) (.slice A2 F.length c2) ls F → Calls Tryz.prog 11 #[.agg #[.slice A1 ls.length c1, .slice A2 F.length c2], .agg #[.int .i64 y.f0, .int .i64 y.f1]] W (AtP W l1 b1)) ∧ (∀ W, SpS W (.slice A5 L.length c5) (.slice A6 F.length c6) L F → Calls Tryz.prog 11 #[.agg #[.slice A5 L.length c5, .slice A6 F.length c6], .agg #[.int .i64 y.f0, .int .i64 y.f1]] W (AtP W l2 b1)) :=
     ⟨spMay ls F y, spAt ls F y, spAt L F y, (HIA.out y hy).2, fun W hW => impl_SpineAt _ _ ls F y W hW HSB.out, fun W hW => by have := impl_SpineAt _ _ L F y W hW HXB.out; rwa [(HIA.out y hy).1] at this⟩
    have HCA := Aside0.mk hCA
    have HCB := Aside0.mk hCB
    clear hCA hCB hy
    go_upto_region 12 with fail
    have y0 : wr.drew.cell? ⟨S, 0, none⟩ = some (.slice A1 ls.length c1) := blk_cell BS.out 0
    have y1 : wr.drew.cell? ⟨S, 1, none⟩ = some (.slice A2 F.length c2) := blk_cell BS.out 1
    replace h0 : wr.drew.cell? (ad.add (k * 2)) = some (.int .i64 y.f0) := h0
    replace h1 : wr.drew.cell? ⟨(ad.add (k * 2)).block, (ad.add (k * 2)).off + 1, none⟩ = some (.int .i64 y.f1) := h1
    refine start_ (n := 11) (S := fun w' => w'.cell? ⟨S, 0, none⟩ = some (.slice A1 ls.length c1) ∧ w'.cell? ⟨S, 1, none⟩ = some (.slice A2 F.length c2) ∧ w'.cell? (ad.add (k * 2)) = some (.int .i64 y.f0) ∧ w'.cell? ⟨(ad.add (k * 2)).block, (ad.add (k * 2)).off + 1, none⟩ = some (.int .i64 y.f1)) (ds := []) #[false, false, false, false, false, false, false, false, false, false, false] (by kernel_rfl) rfl rfl ⟨y0, y1, h0, h1⟩ (fun hHeld => ?_)
    refine with_tabW tb_laws_FnSpineIn_12.tab tb_laws_FnSpineIn_12.bits (fun HT_ HW_ => ?_)
    refine pure_ (i := 1) (N := some 65) (v := ?_) (a' := ?_) #[false, true, false, false, false, false, false, false, false, false, false] rfl rfl (any_of HT_.out (by kernel_rfl)) (fun _ _ _ h => h) (Or.inl ⟨by rfl, ?_⟩) ?_ ?_
    rotate_left; (intro w'; go_simp; with_reducible rfl); rotate_left; (simp only [Act.put, setIfInBounds_toArray, set_cons_zero, set_cons_succ, i64_w]; rfl)
    refine pure_ (i := 2) (N := some 66) (v := ?_) (a' := ?_) #[false, true, true, false, false, false, false, false, false, false, false] rfl rfl (any_of HT_.out (by kernel_rfl)) (fun _ _ _ h => h) (Or.inl ⟨by rfl, ?_⟩) ?_ ?_
    rotate_left; (intro w'; go_simp; with_reducible rfl); rotate_left; (simp only [Act.put, setIfInBounds_toArray, set_cons_zero, set_cons_succ, i64_w]; rfl)
    refine pure_ (i := 3) (N := some 67) (v := ?_) (a' := ?_) #[false, true, true, true, false, false, false, false, false, false, false] rfl rfl (any_of HT_.out (by kernel_rfl)) (fun _ _ _ h => h) (Or.inl ⟨by rfl, ?_⟩) ?_ ?_
    rotate_left; (intro w'; go_simp; with_reducible rfl); rotate_left; (simp only [Act.put, setIfInBounds_toArray, set_cons_zero, set_cons_succ, i64_w]; rfl)
    refine take_ (i := 0) (N := some 64) (v := ?_) (a' := ?_) #[true, true, true, true, false, false, false, false, false, false, false] rfl rfl (take_ofW HT_.out HW_.out (by kernel_rfl)) (fun _ _ _ h => h) (Or.inl ⟨by rfl, ?_⟩) hHeld ?_ ?_
    rotate_left; (rintro w' ⟨s0, s1, s2, s3⟩; go_simp; with_reducible rfl); rotate_left; (simp only [Act.put, setIfInBounds_toArray, set_cons_zero, set_cons_succ, i64_w]; rfl)
    refine take_ (i := 4) (N := some 68) (v := ?_) (a' := ?_) #[true, true, true, true, true, false, false, false, false, false, false] rfl rfl (take_ofW HT_.out HW_.out (by kernel_rfl)) (fun _ _ _ h => h) (Or.inl ⟨by rfl, ?_⟩) hHeld ?_ ?_
    rotate_left; (rintro w' ⟨s0, s1, s2, s3⟩; go_simp; with_reducible rfl); rotate_left; (simp only [Act.put, setIfInBounds_toArray, set_cons_zero, set_cons_succ, i64_w]; rfl)
    refine one_ (i := 5) (N := some 69) #[true, true, true, true, true, true, false, false, false, false, false] rfl rfl (one_of HT_.out (by kernel_rfl)) (by decide) (fun K hK => ?_)
    refine goes_ Tryz.func11 (by kernel_rfl) rfl #[.agg #[.slice A1 ls.length c1, .slice A2 F.length c2], .agg #[.int .i64 y.f0, .int .i64 y.f1]] (by rfl) rfl rfl (by simp only [List.map_toArray, List.map_cons, List.map_nil]; rfl) ?_
    with_reducible refine (HCA.out _ (HS.out.below (below_drew (Below.refl _ _)))).mono ?_
    rintro e w6 ⟨va, rfl, hr6, hb0⟩
    refine ⟨_, rfl, ?_⟩
    have hb6 := bthen (below_drew (Below.refl wr.heap.size wr)) hb0
    have HR6 := Aside0.mk (Sl.of_R hr6)
    replace BS := Aside0.mk (blk_below BS.out hb6)
    replace BX := Aside0.mk (blk_below BX.out hb6)
    replace HS := Aside0.mk (HS.out.below hb6)
    replace HX := Aside0.mk (HX.out.below hb6)
    replace HV := Aside0.mk (HV.out.below hb6)
    replace HA := Aside0.mk (HA.out.below hb6)
    replace HB := Aside0.mk (bthen HB.out hb6)
    clear hr6
    refine hK.out _ _ ⟨pw_cell_below hb0 y0, pw_cell_below hb0 y1, pw_cell_below hb0 h0, pw_cell_below hb0 h1⟩ (fun hHeld => ?_)
    clear hK K
    refine norm_ (a' := ?_) ?_ ?_
    rotate_left
    ·show Act.put _ (some 69) _ = _
     simp only [Act.put, setIfInBounds_toArray, set_cons_zero, set_cons_succ, i64_w]
     rfl
    refine pure_ (i := 6) (N := some 63) (v := ?_) (a' := ?_) #[true, true, true, true, true, true, true, false, false, false, false] rfl rfl (any_of HT_.out (by kernel_rfl)) (fun _ _ _ h => h) (Or.inl ⟨by rfl, ?_⟩) ?_ ?_
    rotate_left; (intro w'; go_simp; with_reducible rfl); rotate_left; (simp only [Act.put, setIfInBounds_toArray, set_cons_zero, set_cons_succ, i64_w]; rfl)
    refine pure_ (i := 7) (N := some 70) (v := ?_) (a' := ?_) #[true, true, true, true, true, true, true, true, false, false, false] rfl rfl (any_of HT_.out (by kernel_rfl)) (fun _ _ _ h => h) (Or.inl ⟨by rfl, ?_⟩) ?_ ?_
    rotate_left; (intro w'; go_simp; with_reducible rfl); rotate_left; (simp only [Act.put, setIfInBounds_toArray, set_cons_zero, set_cons_succ, i64_w]; rfl)
    refine pure_ (i := 8) (N := some 71) (v := ?_) (a' := ?_) #[true, true, true, true, true, true, true, true, true, false, false] rfl rfl (any_of HT_.out (by kernel_rfl)) (fun _ _ _ h => h) (Or.inl ⟨by rfl, ?_⟩) ?_ ?_
    rotate_left; (intro w'; go_simp; with_reducible rfl); rotate_left; (simp only [Act.put, setIfInBounds_toArray, set_cons_zero, set_cons_succ, i64_w]; rfl)
    refine pure_ (i := 9) (N := some 11) (v := ?_) (a' := ?_) #[true, true, true, true, true, true, true, true, true, true, false] rfl rfl (any_of HT_.out (by kernel_rfl)) (fun _ _ _ h => h) (Or.inl ⟨by rfl, ?_⟩) ?_ ?_
    rotate_left; (intro w'; go_simp; with_reducible rfl); rotate_left; (simp only [Act.put, setIfInBounds_toArray, set_cons_zero, set_cons_succ, i64_w]; rfl)
    refine pure_ (i := 10) (N := some 12) (v := ?_) (a' := ?_) #[true, true, true, true, true, true, true, true, true, true, true] rfl rfl (any_of HT_.out (by kernel_rfl)) (fun _ _ _ h => h) (Or.inl ⟨by rfl, ?_⟩) ?_ ?_
    rotate_left; (intro w'; go_simp; with_reducible rfl); rotate_left; (simp only [Act.put, setIfInBounds_toArray, set_cons_zero, set_cons_succ, i64_w]; rfl)
    refine done_ (done_of HT_.out (by kernel_rfl)) ?_
    obtain ⟨z1, z2, z3, z4⟩ := hHeld
    clear hHeld HT_ HW_ hb0 hb6 y0 y1 h0 h1 z1 z2
    go_upto_region 13 with fail
    have y0 : w6.drew.cell? ⟨X, 0, none⟩ = some (.slice A5 L.length c5) := blk_cell BX.out 0
    have y1 : w6.drew.cell? ⟨X, 1, none⟩ = some (.slice A6 F.length c6) := blk_cell BX.out 1
    have h0 : w6.drew.cell? (ad.add (k * 2)) = some (.int .i64 y.f0) := z3
    have h1 : w6.drew.cell? ⟨(ad.add (k * 2)).block, (ad.add (k * 2)).off + 1, none⟩ = some (.int .i64 y.f1) := z4
    clear z3 z4
    refine start_ (n := 11) (S := fun w' => w'.cell? ⟨X, 0, none⟩ = some (.slice A5 L.length c5) ∧ w'.cell? ⟨X, 1, none⟩ = some (.slice A6 F.length c6) ∧ w'.cell? (ad.add (k * 2)) = some (.int .i64 y.f0) ∧ w'.cell? ⟨(ad.add (k * 2)).block, (ad.add (k * 2)).off + 1, none⟩ = some (.int .i64 y.f1)) (ds := []) #[false, false, false, false, false, false, false, false, false, false, false] (by kernel_rfl) rfl rfl ⟨y0, y1, h0, h1⟩ (fun hHeld => ?_)
    refine with_tabW tb_laws_FnSpineIn_13.tab tb_laws_FnSpineIn_13.bits (fun HT_ HW_ => ?_)
    refine pure_ (i := 1) (N := some 74) (v := ?_) (a' := ?_) #[false, true, false, false, false, false, false, false, false, false, false] rfl rfl (any_of HT_.out (by kernel_rfl)) (fun _ _ _ h => h) (Or.inl ⟨by rfl, ?_⟩) ?_ ?_
    rotate_left; (intro w'; go_simp; with_reducible rfl); rotate_left; (simp only [Act.put, setIfInBounds_toArray, set_cons_zero, set_cons_succ, i64_w]; rfl)
    refine pure_ (i := 2) (N := some 75) (v := ?_) (a' := ?_) #[false, true, true, false, false, false, false, false, false, false, false] rfl rfl (any_of HT_.out (by kernel_rfl)) (fun _ _ _ h => h) (Or.inl ⟨by rfl, ?_⟩) ?_ ?_
    rotate_left; (intro w'; go_simp; with_reducible rfl); rotate_left; (simp only [Act.put, setIfInBounds_toArray, set_cons_zero, set_cons_succ, i64_w]; rfl)
    refine pure_ (i := 3) (N := some 76) (v := ?_) (a' := ?_) #[false, true, true, true, false, false, false, false, false, false, false] rfl rfl (any_of HT_.out (by kernel_rfl)) (fun _ _ _ h => h) (Or.inl ⟨by rfl, ?_⟩) ?_ ?_
    rotate_left; (intro w'; go_simp; with_reducible rfl); rotate_left; (simp only [Act.put, setIfInBounds_toArray, set_cons_zero, set_cons_succ, i64_w]; rfl)
    refine take_ (i := 0) (N := some 73) (v := ?_) (a' := ?_) #[true, true, true, true, false, false, false, false, false, false, false] rfl rfl (take_ofW HT_.out HW_.out (by kernel_rfl)) (fun _ _ _ h => h) (Or.inl ⟨by rfl, ?_⟩) hHeld ?_ ?_
    rotate_left; (rintro w' ⟨s0, s1, s2, s3⟩; go_simp; with_reducible rfl); rotate_left; (simp only [Act.put, setIfInBounds_toArray, set_cons_zero, set_cons_succ, i64_w]; rfl)
    refine take_ (i := 4) (N := some 77) (v := ?_) (a' := ?_) #[true, true, true, true, true, false, false, false, false, false, false] rfl rfl (take_ofW HT_.out HW_.out (by kernel_rfl)) (fun _ _ _ h => h) (Or.inl ⟨by rfl, ?_⟩) hHeld ?_ ?_
    rotate_left; (rintro w' ⟨s0, s1, s2, s3⟩; go_simp; with_reducible rfl); rotate_left; (simp only [Act.put, setIfInBounds_toArray, set_cons_zero, set_cons_succ, i64_w]; rfl)
    refine one_ (i := 5) (N := some 78) #[true, true, true, true, true, true, false, false, false, false, false] rfl rfl (one_of HT_.out (by kernel_rfl)) (by decide) (fun K hK => ?_)
    refine goes_ Tryz.func11 (by kernel_rfl) rfl #[.agg #[.slice A5 L.length c5, .slice A6 F.length c6], .agg #[.int .i64 y.f0, .int .i64 y.f1]] (by rfl) rfl rfl (by simp only [List.map_toArray, List.map_cons, List.map_nil]; rfl) ?_
    with_reducible refine (HCB.out _ (HX.out.below (below_drew (Below.refl _ _)))).mono ?_
    rintro e w7 ⟨vc, rfl, hr7, hb0⟩
    refine ⟨_, rfl, ?_⟩
    have hb6 := bthen (below_drew (Below.refl w6.heap.size w6)) hb0
    have HR7 := Aside0.mk (Sl.of_R hr7)
    replace HR6 := Aside0.mk (HR6.out.below hb6)
    replace BS := Aside0.mk (blk_below BS.out hb6)
    replace BX := Aside0.mk (blk_below BX.out hb6)
    replace HS := Aside0.mk (HS.out.below hb6)
    replace HX := Aside0.mk (HX.out.below hb6)
    replace HV := Aside0.mk (HV.out.below hb6)
    replace HA := Aside0.mk (HA.out.below hb6)
    replace HB := Aside0.mk (bthen HB.out hb6)
    clear hr7
    refine hK.out _ _ ⟨pw_cell_below hb0 y0, pw_cell_below hb0 y1, pw_cell_below hb0 h0, pw_cell_below hb0 h1⟩ (fun hHeld => ?_)
    clear hK K
    refine norm_ (a' := ?_) ?_ ?_
    rotate_left
    ·show Act.put _ (some 78) _ = _
     simp only [Act.put, setIfInBounds_toArray, set_cons_zero, set_cons_succ, i64_w]
     rfl
    refine pure_ (i := 6) (N := some 72) (v := ?_) (a' := ?_) #[true, true, true, true, true, true, true, false, false, false, false] rfl rfl (any_of HT_.out (by kernel_rfl)) (fun _ _ _ h => h) (Or.inl ⟨by rfl, ?_⟩) ?_ ?_
    rotate_left; (intro w'; go_simp; with_reducible rfl); rotate_left; (simp only [Act.put, setIfInBounds_toArray, set_cons_zero, set_cons_succ, i64_w]; rfl)
    refine pure_ (i := 7) (N := some 79) (v := ?_) (a' := ?_) #[true, true, true, true, true, true, true, true, false, false, false] rfl rfl (any_of HT_.out (by kernel_rfl)) (fun _ _ _ h => h) (Or.inl ⟨by rfl, ?_⟩) ?_ ?_
    rotate_left; (intro w'; go_simp; with_reducible rfl); rotate_left; (simp only [Act.put, setIfInBounds_toArray, set_cons_zero, set_cons_succ, i64_w]; rfl)
    refine pure_ (i := 8) (N := some 80) (v := ?_) (a' := ?_) #[true, true, true, true, true, true, true, true, true, false, false] rfl rfl (any_of HT_.out (by kernel_rfl)) (fun _ _ _ h => h) (Or.inl ⟨by rfl, ?_⟩) ?_ ?_
    rotate_left; (intro w'; go_simp; with_reducible rfl); rotate_left; (simp only [Act.put, setIfInBounds_toArray, set_cons_zero, set_cons_succ, i64_w]; rfl)
    refine pure_ (i := 9) (N := some 13) (v := ?_) (a' := ?_) #[true, true, true, true, true, true, true, true, true, true, false] rfl rfl (any_of HT_.out (by kernel_rfl)) (fun _ _ _ h => h) (Or.inl ⟨by rfl, ?_⟩) ?_ ?_
    rotate_left; (intro w'; go_simp; with_reducible rfl); rotate_left; (simp only [Act.put, setIfInBounds_toArray, set_cons_zero, set_cons_succ, i64_w]; rfl)
    refine pure_ (i := 10) (N := some 14) (v := ?_) (a' := ?_) #[true, true, true, true, true, true, true, true, true, true, true] rfl rfl (any_of HT_.out (by kernel_rfl)) (fun _ _ _ h => h) (Or.inl ⟨by rfl, ?_⟩) ?_ ?_
    rotate_left; (intro w'; go_simp; with_reducible rfl); rotate_left; (simp only [Act.put, setIfInBounds_toArray, set_cons_zero, set_cons_succ, i64_w]; rfl)
    refine done_ (done_of HT_.out (by kernel_rfl)) ?_
    obtain ⟨z1, z2, z3, z4⟩ := hHeld
    clear hHeld HT_ HW_ hb0 hb6 y0 y1 h0 h1 z1 z2
    cases b1
    ·go_wp2
     go_roundw
     case rel => exact ⟨k + 1, by omega, by go_num, BS, BX, HS, HX, HV, HA, HB⟩
     case measure => simp [intOf]; omega
    ·have e1 := hbb rfl
     subst e1
     go_wp2_with (first
      | (go_at_call 14; ((with_reducible refine (impl_BatchAt vb b y _ HV.out).mono ?_); rintro e w8 ⟨vd, rfl, hr8, hb⟩; have HR8 := Aside0.mk (Sl.of_R hr8); replace HR6 := Aside0.mk (HR6.out.below hb); replace HR7 := Aside0.mk (HR7.out.below hb); replace BS := Aside0.mk (blk_below BS.out hb); replace BX := Aside0.mk (blk_below BX.out hb); replace HS := Aside0.mk (HS.out.below hb); replace HX := Aside0.mk (HX.out.below hb); replace HV := Aside0.mk (HV.out.below hb); replace HA := Aside0.mk (HA.out.below hb); replace HB := Aside0.mk (bthen HB.out hb); clear hr8 hb))
      | (go_at_call 13; ((with_reducible refine (impl_SetBoth va vd l1 (batchAt b y) _ HR6.out HR8.out).mono ?_); rintro e w9 ⟨ve, rfl, hr9, hb⟩; have HR9 := Aside0.mk (Sl.of_R hr9); replace HR7 := Aside0.mk (HR7.out.below hb); replace BS := Aside0.mk (blk_below BS.out hb); replace BX := Aside0.mk (blk_below BX.out hb); replace HS := Aside0.mk (HS.out.below hb); replace HX := Aside0.mk (HX.out.below hb); replace HV := Aside0.mk (HV.out.below hb); replace HA := Aside0.mk (HA.out.below hb); replace HB := Aside0.mk (bthen HB.out hb); clear hr9 hb))
      | (go_at_call 12; ((with_reducible refine (lwItemsT vc ve (setBoth l1 (batchAt b y)) _ HR7.out HR9.out).mono ?_); rintro e w10 ⟨rfl, hb⟩; replace BS := Aside0.mk (blk_below BS.out hb); replace BX := Aside0.mk (blk_below BX.out hb); replace HS := Aside0.mk (HS.out.below hb); replace HX := Aside0.mk (HX.out.below hb); replace HV := Aside0.mk (HV.out.below hb); replace HA := Aside0.mk (HA.out.below hb); replace HB := Aside0.mk (bthen HB.out hb); clear hb)))
     go_roundw
     case rel => exact ⟨k + 1, by omega, by go_num, BS, BX, HS, HX, HV, HA, HB⟩
     case measure => simp [intOf]; omega
   ·go_wp2
    go_ret
    exact RetV.mk rfl HB.out
end Go.Proofs.YtkdendlgaaimbaaGreat.X
