/- Conditions: none. -/
import Derived.Test.YtkdendlgaaimbaaYOLwSp
import Derived.Test.YtkdendlgaaimbaaYOSpHi
import Derived.Test.YtkdendlgaaimbaaYODrSt
import Derived.Test.YtkdendlgaaimbaaYOBytes
import Derived.RegionTactic
import Derived.BigRegion
namespace Go.Proofs.Ytkdendlgaaimbaa.X
open Go.RowKit Go.Proofs.YtkdendlgaaimbaaW.PrintWords Go.Proofs.YtkdendlgaaimbaaW.PrintLast
set_option linter.unusedVariables false
set_option linter.unusedSimpArgs false
theorem since_ok {ls : List (List Rw)} {f g : List Tm} (h : sinceB ls f g = true) : spineOk (sinceL ls f g) (sinceF ls f g) = true := by
 have h0 := h
 unfold sinceB at h
 simp only [Bool.and_eq_true] at h
 have h1 := spineOk_iff.1 h.1.1.1
 rw [show sinceL ls f g = ls from if_pos h0, show sinceF ls f g = g from if_pos h0]
 exact spineOk_iff.2 ⟨h1.lay, h1.few, h1.rows, h.1.1.2⟩
theorem in_ok {ls : List (List Rw)} {f : List Tm} {b : List Rw} (h : inB ls f b = true) : spineOk (inL ls f b) (inF ls f b) = true := by
 rw [show inL ls f b = inBase ls f ++ [b] from if_pos h, show inF ls f b = f from if_pos h]
 exact spineOk_iff.2 (inB_iff.1 h).2.2.2.2
theorem join_ok {ls : List (List Rw)} {f : List Tm} {k : Int} (h : joinB ls f k = true) : spineOk (joinL ls f k) (joinF ls f k) = true := by
 rw [show joinL ls f k = joinAt ls f k.toNat from if_pos h, show joinF ls f k = f from if_pos h]
 obtain ⟨h1, h2, h3⟩ := joinB_iff.1 h
 exact spineOk_iff.2 (joinAt_ok h1 h2.2 h3)
set_option maxRecDepth 100000 in
set_option maxHeartbeats 4000000 in
theorem laws_FnSpineOk (v v2 : Value) (l m : List Int) (w : World) (h : IsBytes w v l) (h2 : IsBytes w v2 m) : Calls Try.prog 3 #[v, v2] w (RetV w (.bool true)) := by
 have H := Aside0.mk h
 obtain ⟨⟨A, c, rfl, hc, hr⟩, hb⟩ := h
 have hm := Kd.C_max hr
 clear hr hb
 have H2 := Aside0.mk h2
 obtain ⟨⟨A2, c2, rfl, hc2, hr2⟩, hb2⟩ := h2
 have hm2 := Kd.C_max hr2
 clear hr2 hb2
 have HB := Aside0.mk (Below.refl w.heap.size w)
 go_enter Try.func3, Try.ntmps3
 by_cases hl : 1048576 < l.length
 ·have hl' : (l.length : Int) > 1048576 := by omega
  go_wp2
  go_ret
  exact RetV.mk rfl HB.out
 have hl' : ¬ (l.length : Int) > 1048576 := by omega
 by_cases hl2 : 1048576 < m.length
 ·have hl2' : (m.length : Int) > 1048576 := by omega
  go_wp2
  go_ret
  exact RetV.mk rfl HB.out
 have hl2' : ¬ (m.length : Int) > 1048576 := by omega
 go_upto_region 4 with (go_at_call 14; ((with_reducible refine (spec_DrawSpineIn (.slice A l.length c) l w H.out.sl H.out.by_).mono ?_); rintro e wa ⟨us, vs, vb, ls, f, b, rfl, h1, h2, hd, hbl, hbb⟩; obtain ⟨A1, c1, A2_, c2_, rfl, rfl⟩ := SpS.form h1; have HS := Aside0.mk h1; have HV := Aside0.mk h2; have HSB := Aside0.mk (SpD.b hd); have HBL := Aside0.mk (Nat.le_trans hbl (by decide) : b.length ≤ 1048576); replace HB := Aside0.mk hbb; clear h1 h2 hd hbb))
 refine name_world fun W1 hW => ?_
 have BS_ : W1.heap[wa.heap.size]? = some (.cells #[.slice A1 ls.length c1, .slice A2_ f.length c2_] 26 (0, 0)) := by rw [hW]; exact blk_new wa _
 have hb1 : Below wa.heap.size wa W1 := by rw [hW]; repeat (first | exact Below.refl _ _ | apply below_alloc | refine below_set ?_ (by simp))
 clear hW
 generalize hS : wa.heap.size = S at BS_ ⊢
 (try replace HS := Aside0.mk (HS.out.below hb1))
 (try replace HV := Aside0.mk (HV.out.below hb1))
 (try replace HP := Aside0.mk (HP.out.below hb1))
 (try replace HX := Aside0.mk (HX.out.below hb1))
 (try replace HZ := Aside0.mk (HZ.out.below hb1))
 (try replace HW := Aside0.mk (HW.out.below hb1))
 (try replace BS := Aside0.mk (blk_below BS.out hb1))
 (try replace BP := Aside0.mk (blk_below BP.out hb1))
 (try replace BX := Aside0.mk (blk_below BX.out hb1))
 (try replace BZ := Aside0.mk (blk_below BZ.out hb1))
 (try replace BW := Aside0.mk (blk_below BW.out hb1))
 (try replace s0 := pw_cell_below hb1 s0)
 (try replace s1 := pw_cell_below hb1 s1)
 (try replace p0 := pw_cell_below hb1 p0)
 (try replace p1 := pw_cell_below hb1 p1)
 (try replace x0 := pw_cell_below hb1 x0)
 (try replace x1 := pw_cell_below hb1 x1)
 (try replace z0 := pw_cell_below hb1 z0)
 (try replace z1 := pw_cell_below hb1 z1)
 (try replace y0 := pw_cell_below hb1 y0)
 (try replace y1 := pw_cell_below hb1 y1)
 replace HB := Aside0.mk (bthen HB.out hb1)
 have BS := Aside0.mk BS_
 clear BS_ hS hb1
 have s0 := blk_cell BS.out 0
 have s1 := blk_cell BS.out 1
 obtain ⟨L, F, B, HXB, HK1, HCI, HCS⟩ : ∃ (L : List (List Rw)) (F : List Tm) (B : Bool), Aside0 (SpB L F) ∧ Aside0 (B = true → spineOk L F = true) ∧ Aside0 (∀ W, SpS W (.slice A1 ls.length c1) (.slice A2_ f.length c2_) ls f → Sl kRw W vb b → Calls Try.prog 15 #[.agg #[.slice A1 ls.length c1, .slice A2_ f.length c2_], vb] W (SpQ W L F B)) ∧ Aside0 (∀ W, SpS W (.slice A1 ls.length c1) (.slice A2_ f.length c2_) ls f → Sl kRw W vb b → Calls Try.prog 19 #[.agg #[.slice A1 ls.length c1, .slice A2_ f.length c2_], vb] W (SpU W L F B)) :=
  ⟨_, _, _, ⟨inSp HSB.out HBL.out⟩, ⟨in_ok⟩, ⟨fun W hw hv => impl_SpineIn _ _ vb ls f b W hw hv HSB.out HBL.out⟩, ⟨fun W hw hv => spec_SpineIn _ _ vb ls f b W hw hv HSB.out HBL.out⟩⟩
 go_upto_region 5 with (go_at_call 15; ((with_reducible refine (HCI.out _ HS.out HV.out).mono ?_); rintro e wb ⟨ua, va, rfl, hr, hb⟩; obtain ⟨A3, c3, A4, c4, rfl, rfl⟩ := SpS.form hr.s; have HX := Aside0.mk hr.s; (try replace HS := Aside0.mk (HS.out.below hb)); (try replace HV := Aside0.mk (HV.out.below hb)); (try replace HP := Aside0.mk (HP.out.below hb)); (try replace HX := Aside0.mk (HX.out.below hb)); (try replace HZ := Aside0.mk (HZ.out.below hb)); (try replace HW := Aside0.mk (HW.out.below hb)); (try replace BS := Aside0.mk (blk_below BS.out hb)); (try replace BP := Aside0.mk (blk_below BP.out hb)); (try replace BX := Aside0.mk (blk_below BX.out hb)); (try replace BZ := Aside0.mk (blk_below BZ.out hb)); (try replace BW := Aside0.mk (blk_below BW.out hb)); (try replace s0 := pw_cell_below hb s0); (try replace s1 := pw_cell_below hb s1); (try replace p0 := pw_cell_below hb p0); (try replace p1 := pw_cell_below hb p1); (try replace x0 := pw_cell_below hb x0); (try replace x1 := pw_cell_below hb x1); (try replace z0 := pw_cell_below hb z0); (try replace z1 := pw_cell_below hb z1); (try replace y0 := pw_cell_below hb y0); (try replace y1 := pw_cell_below hb y1); replace HB := Aside0.mk (bthen HB.out hb); clear hr hb))
 refine name_world fun W2 hW => ?_
 have BX_ : W2.heap[wb.heap.size]? = some (.cells #[.slice A3 L.length c3, .slice A4 F.length c4] 26 (0, 0)) := by rw [hW]; exact blk_new wb _
 have hb1 : Below wb.heap.size wb W2 := by rw [hW]; repeat (first | exact Below.refl _ _ | apply below_alloc | refine below_set ?_ (by simp))
 clear hW
 generalize hX : wb.heap.size = X at BX_ ⊢
 (try replace HS := Aside0.mk (HS.out.below hb1))
 (try replace HV := Aside0.mk (HV.out.below hb1))
 (try replace HP := Aside0.mk (HP.out.below hb1))
 (try replace HX := Aside0.mk (HX.out.below hb1))
 (try replace HZ := Aside0.mk (HZ.out.below hb1))
 (try replace HW := Aside0.mk (HW.out.below hb1))
 (try replace BS := Aside0.mk (blk_below BS.out hb1))
 (try replace BP := Aside0.mk (blk_below BP.out hb1))
 (try replace BX := Aside0.mk (blk_below BX.out hb1))
 (try replace BZ := Aside0.mk (blk_below BZ.out hb1))
 (try replace BW := Aside0.mk (blk_below BW.out hb1))
 (try replace s0 := pw_cell_below hb1 s0)
 (try replace s1 := pw_cell_below hb1 s1)
 (try replace p0 := pw_cell_below hb1 p0)
 (try replace p1 := pw_cell_below hb1 p1)
 (try replace x0 := pw_cell_below hb1 x0)
 (try replace x1 := pw_cell_below hb1 x1)
 (try replace z0 := pw_cell_below hb1 z0)
 (try replace z1 := pw_cell_below hb1 z1)
 (try replace y0 := pw_cell_below hb1 y0)
 (try replace y1 := pw_cell_below hb1 y1)
 replace HB := Aside0.mk (bthen HB.out hb1)
 have BX := Aside0.mk BX_
 clear BX_ hX hb1
 have x0 := blk_cell BX.out 0
 have x1 := blk_cell BX.out 1
 go_upto_region 6 with (go_at_call 16; ((with_reducible refine (spec_DrawBatchMove (.slice A2 m.length c2) m _ (H2.out.below HB.out).sl H2.out.by_).mono ?_); rintro e wc ⟨vu, vg, u, g, rfl, h1, h2, h3, h4, hb⟩; have HW := Aside0.mk h3; have HGL := Aside0.mk (Nat.le_trans h4 (by decide) : g.length ≤ 1048576); (try replace HS := Aside0.mk (HS.out.below hb)); (try replace HV := Aside0.mk (HV.out.below hb)); (try replace HP := Aside0.mk (HP.out.below hb)); (try replace HX := Aside0.mk (HX.out.below hb)); (try replace HZ := Aside0.mk (HZ.out.below hb)); (try replace HW := Aside0.mk (HW.out.below hb)); (try replace BS := Aside0.mk (blk_below BS.out hb)); (try replace BP := Aside0.mk (blk_below BP.out hb)); (try replace BX := Aside0.mk (blk_below BX.out hb)); (try replace BZ := Aside0.mk (blk_below BZ.out hb)); (try replace BW := Aside0.mk (blk_below BW.out hb)); (try replace s0 := pw_cell_below hb s0); (try replace s1 := pw_cell_below hb s1); (try replace p0 := pw_cell_below hb p0); (try replace p1 := pw_cell_below hb p1); (try replace x0 := pw_cell_below hb x0); (try replace x1 := pw_cell_below hb x1); (try replace z0 := pw_cell_below hb z0); (try replace z1 := pw_cell_below hb z1); (try replace y0 := pw_cell_below hb y0); (try replace y1 := pw_cell_below hb y1); replace HB := Aside0.mk (bthen HB.out hb); clear h1 h2 h3 h4 hb))
 obtain ⟨L2, F2, B2, HXB2, HK2, HC2⟩ : ∃ (L : List (List Rw)) (F : List Tm) (B : Bool), Aside0 (SpB L F) ∧ Aside0 (B = true → spineOk L F = true) ∧ Aside0 (∀ W, SpS W (.slice A1 ls.length c1) (.slice A2_ f.length c2_) ls f → Sl kTm W vg g → Calls Try.prog 17 #[.agg #[.slice A1 ls.length c1, .slice A2_ f.length c2_], vg] W (SpU W L F B)) :=
  ⟨_, _, _, ⟨sinceSp HSB.out HGL.out⟩, ⟨since_ok⟩, ⟨fun W hw hv => impl_SinceH _ _ vg ls f g W hw hv HSB.out HGL.out⟩⟩
 go_upto_region 7 with (go_at_call 17; ((with_reducible refine (HC2.out _ HS.out HW.out).mono ?_); rintro e wd ⟨ua, va, rfl, hr, hb⟩; obtain ⟨A5, c5, A6, c6, rfl, rfl⟩ := SpS.form hr.s; clear HW; have HZ := Aside0.mk hr.s; (try replace HS := Aside0.mk (HS.out.below hb)); (try replace HV := Aside0.mk (HV.out.below hb)); (try replace HP := Aside0.mk (HP.out.below hb)); (try replace HX := Aside0.mk (HX.out.below hb)); (try replace HZ := Aside0.mk (HZ.out.below hb)); (try replace HW := Aside0.mk (HW.out.below hb)); (try replace BS := Aside0.mk (blk_below BS.out hb)); (try replace BP := Aside0.mk (blk_below BP.out hb)); (try replace BX := Aside0.mk (blk_below BX.out hb)); (try replace BZ := Aside0.mk (blk_below BZ.out hb)); (try replace BW := Aside0.mk (blk_below BW.out hb)); (try replace s0 := pw_cell_below hb s0); (try replace s1 := pw_cell_below hb s1); (try replace p0 := pw_cell_below hb p0); (try replace p1 := pw_cell_below hb p1); (try replace x0 := pw_cell_below hb x0); (try replace x1 := pw_cell_below hb x1); (try replace z0 := pw_cell_below hb z0); (try replace z1 := pw_cell_below hb z1); (try replace y0 := pw_cell_below hb y0); (try replace y1 := pw_cell_below hb y1); replace HB := Aside0.mk (bthen HB.out hb); clear hr hb))
 refine name_world fun W3 hW => ?_
 have BZ_ : W3.heap[wd.heap.size]? = some (.cells #[.slice A5 L2.length c5, .slice A6 F2.length c6] 26 (0, 0)) := by rw [hW]; exact blk_new wd _
 have hb1 : Below wd.heap.size wd W3 := by rw [hW]; repeat (first | exact Below.refl _ _ | apply below_alloc | refine below_set ?_ (by simp))
 clear hW
 generalize hZ : wd.heap.size = Z at BZ_ ⊢
 (try replace HS := Aside0.mk (HS.out.below hb1))
 (try replace HV := Aside0.mk (HV.out.below hb1))
 (try replace HP := Aside0.mk (HP.out.below hb1))
 (try replace HX := Aside0.mk (HX.out.below hb1))
 (try replace HZ := Aside0.mk (HZ.out.below hb1))
 (try replace HW := Aside0.mk (HW.out.below hb1))
 (try replace BS := Aside0.mk (blk_below BS.out hb1))
 (try replace BP := Aside0.mk (blk_below BP.out hb1))
 (try replace BX := Aside0.mk (blk_below BX.out hb1))
 (try replace BZ := Aside0.mk (blk_below BZ.out hb1))
 (try replace BW := Aside0.mk (blk_below BW.out hb1))
 (try replace s0 := pw_cell_below hb1 s0)
 (try replace s1 := pw_cell_below hb1 s1)
 (try replace p0 := pw_cell_below hb1 p0)
 (try replace p1 := pw_cell_below hb1 p1)
 (try replace x0 := pw_cell_below hb1 x0)
 (try replace x1 := pw_cell_below hb1 x1)
 (try replace z0 := pw_cell_below hb1 z0)
 (try replace z1 := pw_cell_below hb1 z1)
 (try replace y0 := pw_cell_below hb1 y0)
 (try replace y1 := pw_cell_below hb1 y1)
 replace HB := Aside0.mk (bthen HB.out hb1)
 have BZ := Aside0.mk BZ_
 clear BZ_ hZ hb1
 have z0 := blk_cell BZ.out 0
 have z1 := blk_cell BZ.out 1
 go_upto_region 8 with (go_at_call 18; generalize hk3 : ((m.length : Int) % 6) = k3; clear hk3; ((with_reducible refine (impl_SpineJoin (.slice A1 ls.length c1) (.slice A2_ f.length c2_) ls f k3 _ HS.out HSB.out).mono ?_); rintro e we ⟨ua, va, rfl, hr, hb⟩; obtain ⟨A7, c7, A8, c8, rfl, rfl⟩ := SpS.form hr.s; have HK3 := Aside0.mk (join_ok (ls := ls) (f := f) (k := k3)); have HXB3 := Aside0.mk (joinSp (k := k3) HSB.out); have HW := Aside0.mk hr.s; generalize joinL ls f k3 = L3 at HW HK3 HXB3 ⊢; generalize joinF ls f k3 = F3 at HW HK3 HXB3 ⊢; generalize joinB ls f k3 = B3 at HK3 ⊢; (try replace HS := Aside0.mk (HS.out.below hb)); (try replace HV := Aside0.mk (HV.out.below hb)); (try replace HP := Aside0.mk (HP.out.below hb)); (try replace HX := Aside0.mk (HX.out.below hb)); (try replace HZ := Aside0.mk (HZ.out.below hb)); (try replace HW := Aside0.mk (HW.out.below hb)); (try replace BS := Aside0.mk (blk_below BS.out hb)); (try replace BP := Aside0.mk (blk_below BP.out hb)); (try replace BX := Aside0.mk (blk_below BX.out hb)); (try replace BZ := Aside0.mk (blk_below BZ.out hb)); (try replace BW := Aside0.mk (blk_below BW.out hb)); (try replace s0 := pw_cell_below hb s0); (try replace s1 := pw_cell_below hb s1); (try replace p0 := pw_cell_below hb p0); (try replace p1 := pw_cell_below hb p1); (try replace x0 := pw_cell_below hb x0); (try replace x1 := pw_cell_below hb x1); (try replace z0 := pw_cell_below hb z0); (try replace z1 := pw_cell_below hb z1); (try replace y0 := pw_cell_below hb y0); (try replace y1 := pw_cell_below hb y1); replace HB := Aside0.mk (bthen HB.out hb); clear hr hb))
 refine name_world fun W4 hW => ?_
 have BW_ : W4.heap[we.heap.size]? = some (.cells #[.slice A7 L3.length c7, .slice A8 F3.length c8] 26 (0, 0)) := by rw [hW]; exact blk_new we _
 have hb1 : Below we.heap.size we W4 := by rw [hW]; repeat (first | exact Below.refl _ _ | apply below_alloc | refine below_set ?_ (by simp))
 clear hW
 generalize hY : we.heap.size = Y at BW_ ⊢
 (try replace HS := Aside0.mk (HS.out.below hb1))
 (try replace HV := Aside0.mk (HV.out.below hb1))
 (try replace HP := Aside0.mk (HP.out.below hb1))
 (try replace HX := Aside0.mk (HX.out.below hb1))
 (try replace HZ := Aside0.mk (HZ.out.below hb1))
 (try replace HW := Aside0.mk (HW.out.below hb1))
 (try replace BS := Aside0.mk (blk_below BS.out hb1))
 (try replace BP := Aside0.mk (blk_below BP.out hb1))
 (try replace BX := Aside0.mk (blk_below BX.out hb1))
 (try replace BZ := Aside0.mk (blk_below BZ.out hb1))
 (try replace BW := Aside0.mk (blk_below BW.out hb1))
 (try replace s0 := pw_cell_below hb1 s0)
 (try replace s1 := pw_cell_below hb1 s1)
 (try replace p0 := pw_cell_below hb1 p0)
 (try replace p1 := pw_cell_below hb1 p1)
 (try replace x0 := pw_cell_below hb1 x0)
 (try replace x1 := pw_cell_below hb1 x1)
 (try replace z0 := pw_cell_below hb1 z0)
 (try replace z1 := pw_cell_below hb1 z1)
 (try replace y0 := pw_cell_below hb1 y0)
 (try replace y1 := pw_cell_below hb1 y1)
 replace HB := Aside0.mk (bthen HB.out hb1)
 have BW := Aside0.mk BW_
 clear BW_ hY hb1
 have y0 := blk_cell BW.out 0
 have y1 := blk_cell BW.out 1
 go_upto_region 9 with (go_at_call 19; ((with_reducible refine (HCS.out _ HS.out HV.out).mono ?_); rintro e wf ⟨ua, va, rfl, hr, hb⟩; obtain ⟨A9, c9, A10, c10, rfl, rfl⟩ := SpS.form hr.s; have HP := Aside0.mk hr.s; (try replace HS := Aside0.mk (HS.out.below hb)); (try replace HV := Aside0.mk (HV.out.below hb)); (try replace HP := Aside0.mk (HP.out.below hb)); (try replace HX := Aside0.mk (HX.out.below hb)); (try replace HZ := Aside0.mk (HZ.out.below hb)); (try replace HW := Aside0.mk (HW.out.below hb)); (try replace BS := Aside0.mk (blk_below BS.out hb)); (try replace BP := Aside0.mk (blk_below BP.out hb)); (try replace BX := Aside0.mk (blk_below BX.out hb)); (try replace BZ := Aside0.mk (blk_below BZ.out hb)); (try replace BW := Aside0.mk (blk_below BW.out hb)); (try replace s0 := pw_cell_below hb s0); (try replace s1 := pw_cell_below hb s1); (try replace p0 := pw_cell_below hb p0); (try replace p1 := pw_cell_below hb p1); (try replace x0 := pw_cell_below hb x0); (try replace x1 := pw_cell_below hb x1); (try replace z0 := pw_cell_below hb z0); (try replace z1 := pw_cell_below hb z1); (try replace y0 := pw_cell_below hb y0); (try replace y1 := pw_cell_below hb y1); replace HB := Aside0.mk (bthen HB.out hb); clear hr hb))
 refine name_world fun W5 hW => ?_
 have BP_ : W5.heap[wf.heap.size]? = some (.cells #[.slice A9 L.length c9, .slice A10 F.length c10] 26 (0, 0)) := by rw [hW]; exact blk_new wf _
 have hb1 : Below wf.heap.size wf W5 := by rw [hW]; repeat (first | exact Below.refl _ _ | apply below_alloc | refine below_set ?_ (by simp))
 clear hW
 generalize hP : wf.heap.size = P at BP_ ⊢
 (try replace HS := Aside0.mk (HS.out.below hb1))
 (try replace HV := Aside0.mk (HV.out.below hb1))
 (try replace HP := Aside0.mk (HP.out.below hb1))
 (try replace HX := Aside0.mk (HX.out.below hb1))
 (try replace HZ := Aside0.mk (HZ.out.below hb1))
 (try replace HW := Aside0.mk (HW.out.below hb1))
 (try replace BS := Aside0.mk (blk_below BS.out hb1))
 (try replace BP := Aside0.mk (blk_below BP.out hb1))
 (try replace BX := Aside0.mk (blk_below BX.out hb1))
 (try replace BZ := Aside0.mk (blk_below BZ.out hb1))
 (try replace BW := Aside0.mk (blk_below BW.out hb1))
 (try replace s0 := pw_cell_below hb1 s0)
 (try replace s1 := pw_cell_below hb1 s1)
 (try replace p0 := pw_cell_below hb1 p0)
 (try replace p1 := pw_cell_below hb1 p1)
 (try replace x0 := pw_cell_below hb1 x0)
 (try replace x1 := pw_cell_below hb1 x1)
 (try replace z0 := pw_cell_below hb1 z0)
 (try replace z1 := pw_cell_below hb1 z1)
 (try replace y0 := pw_cell_below hb1 y0)
 (try replace y1 := pw_cell_below hb1 y1)
 replace HB := Aside0.mk (bthen HB.out hb1)
 have BP := Aside0.mk BP_
 clear BP_ hP hb1
 have p0 := blk_cell BP.out 0
 have p1 := blk_cell BP.out 1
 clear HCI HCS HC2
 cases B <;> cases B2 <;> cases B3
 all_goals
  go_wp2_with (first
   | (go_at_call 20; ((with_reducible refine (laws_lwSpine (.slice A3 L.length c3) (.slice A4 F.length c4) (.slice A9 L.length c9) (.slice A10 F.length c10) L F _ HX.out HP.out).mono ?_); rintro e wg ⟨rfl, hb⟩; (try replace HS := Aside0.mk (HS.out.below hb)); (try replace HV := Aside0.mk (HV.out.below hb)); (try replace HP := Aside0.mk (HP.out.below hb)); (try replace HX := Aside0.mk (HX.out.below hb)); (try replace HZ := Aside0.mk (HZ.out.below hb)); (try replace HW := Aside0.mk (HW.out.below hb)); (try replace BS := Aside0.mk (blk_below BS.out hb)); (try replace BP := Aside0.mk (blk_below BP.out hb)); (try replace BX := Aside0.mk (blk_below BX.out hb)); (try replace BZ := Aside0.mk (blk_below BZ.out hb)); (try replace BW := Aside0.mk (blk_below BW.out hb)); (try replace s0 := pw_cell_below hb s0); (try replace s1 := pw_cell_below hb s1); (try replace p0 := pw_cell_below hb p0); (try replace p1 := pw_cell_below hb p1); (try replace x0 := pw_cell_below hb x0); (try replace x1 := pw_cell_below hb x1); (try replace z0 := pw_cell_below hb z0); (try replace z1 := pw_cell_below hb z1); (try replace y0 := pw_cell_below hb y0); (try replace y1 := pw_cell_below hb y1); replace HB := Aside0.mk (bthen HB.out hb); clear hb))
   | (go_at_call 21; ((with_reducible refine (spOkI (.slice A3 L.length c3) (.slice A4 F.length c4) L F _ HX.out HXB.out.l (by first | exact HK1.out rfl | exact HK1.out trivial)).mono ?_); rintro e wh ⟨rfl, hb⟩; (try replace HS := Aside0.mk (HS.out.below hb)); (try replace HV := Aside0.mk (HV.out.below hb)); (try replace HP := Aside0.mk (HP.out.below hb)); (try replace HX := Aside0.mk (HX.out.below hb)); (try replace HZ := Aside0.mk (HZ.out.below hb)); (try replace HW := Aside0.mk (HW.out.below hb)); (try replace BS := Aside0.mk (blk_below BS.out hb)); (try replace BP := Aside0.mk (blk_below BP.out hb)); (try replace BX := Aside0.mk (blk_below BX.out hb)); (try replace BZ := Aside0.mk (blk_below BZ.out hb)); (try replace BW := Aside0.mk (blk_below BW.out hb)); (try replace s0 := pw_cell_below hb s0); (try replace s1 := pw_cell_below hb s1); (try replace p0 := pw_cell_below hb p0); (try replace p1 := pw_cell_below hb p1); (try replace x0 := pw_cell_below hb x0); (try replace x1 := pw_cell_below hb x1); (try replace z0 := pw_cell_below hb z0); (try replace z1 := pw_cell_below hb z1); (try replace y0 := pw_cell_below hb y0); (try replace y1 := pw_cell_below hb y1); replace HB := Aside0.mk (bthen HB.out hb); clear hb))
   | (go_at_call 21; ((with_reducible refine (spOkI (.slice A5 L2.length c5) (.slice A6 F2.length c6) L2 F2 _ HZ.out HXB2.out.l (by first | exact HK2.out rfl | exact HK2.out trivial)).mono ?_); rintro e wi ⟨rfl, hb⟩; (try replace HS := Aside0.mk (HS.out.below hb)); (try replace HV := Aside0.mk (HV.out.below hb)); (try replace HP := Aside0.mk (HP.out.below hb)); (try replace HX := Aside0.mk (HX.out.below hb)); (try replace HZ := Aside0.mk (HZ.out.below hb)); (try replace HW := Aside0.mk (HW.out.below hb)); (try replace BS := Aside0.mk (blk_below BS.out hb)); (try replace BP := Aside0.mk (blk_below BP.out hb)); (try replace BX := Aside0.mk (blk_below BX.out hb)); (try replace BZ := Aside0.mk (blk_below BZ.out hb)); (try replace BW := Aside0.mk (blk_below BW.out hb)); (try replace s0 := pw_cell_below hb s0); (try replace s1 := pw_cell_below hb s1); (try replace p0 := pw_cell_below hb p0); (try replace p1 := pw_cell_below hb p1); (try replace x0 := pw_cell_below hb x0); (try replace x1 := pw_cell_below hb x1); (try replace z0 := pw_cell_below hb z0); (try replace z1 := pw_cell_below hb z1); (try replace y0 := pw_cell_below hb y0); (try replace y1 := pw_cell_below hb y1); replace HB := Aside0.mk (bthen HB.out hb); clear hb))
   | (go_at_call 21; ((with_reducible refine (spOkI (.slice A7 L3.length c7) (.slice A8 F3.length c8) L3 F3 _ HW.out HXB3.out.l (by first | exact HK3.out rfl | exact HK3.out trivial)).mono ?_); rintro e wj ⟨rfl, hb⟩; (try replace HS := Aside0.mk (HS.out.below hb)); (try replace HV := Aside0.mk (HV.out.below hb)); (try replace HP := Aside0.mk (HP.out.below hb)); (try replace HX := Aside0.mk (HX.out.below hb)); (try replace HZ := Aside0.mk (HZ.out.below hb)); (try replace HW := Aside0.mk (HW.out.below hb)); (try replace BS := Aside0.mk (blk_below BS.out hb)); (try replace BP := Aside0.mk (blk_below BP.out hb)); (try replace BX := Aside0.mk (blk_below BX.out hb)); (try replace BZ := Aside0.mk (blk_below BZ.out hb)); (try replace BW := Aside0.mk (blk_below BW.out hb)); (try replace s0 := pw_cell_below hb s0); (try replace s1 := pw_cell_below hb s1); (try replace p0 := pw_cell_below hb p0); (try replace p1 := pw_cell_below hb p1); (try replace x0 := pw_cell_below hb x0); (try replace x1 := pw_cell_below hb x1); (try replace z0 := pw_cell_below hb z0); (try replace z1 := pw_cell_below hb z1); (try replace y0 := pw_cell_below hb y0); (try replace y1 := pw_cell_below hb y1); replace HB := Aside0.mk (bthen HB.out hb); clear hb)))
  go_ret
  exact RetV.mk rfl HB.out
end Go.Proofs.Ytkdendlgaaimbaa.X
