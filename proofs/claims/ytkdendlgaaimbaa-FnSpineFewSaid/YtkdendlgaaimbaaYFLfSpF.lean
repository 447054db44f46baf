/- Conditions: none. -/
import Derived.Test.YtkdendlgaaimbaaYFLwSp
import Derived.Test.YtkdendlgaaimbaaYFDrSt
import Derived.Test.YtkdendlgaaimbaaYFBytes
import Derived.RegionTactic
import Derived.BigRegion
namespace Go.Proofs.Ytkdendlgaaimbaa.X
open Go.RowKit Go.Proofs.YtkdendlgaaimbaaW.PrintWords Go.Proofs.YtkdendlgaaimbaaW.PrintLast
set_option linter.unusedVariables false
set_option linter.unusedSimpArgs false
set_option maxRecDepth 100000 in
set_option maxHeartbeats 4000000 in
theorem laws_FnSpineFew (v : Value) (l : List Int) (w : World) (h : IsBytes w v l) : Calls Try.prog 10 #[v] w (RetV w (.bool true)) := by
 have H := Aside0.mk h
 obtain ⟨⟨A, c, rfl, hc, hr⟩, hb⟩ := h
 have hm := Kd.C_max hr
 clear hr hb
 have HB := Aside0.mk (Below.refl w.heap.size w)
 go_enter Try.func10, Try.ntmps10
 by_cases hl : 1048576 < l.length
 ·have hl' : (l.length : Int) > 1048576 := by omega
  go_wp2
  go_ret
  exact RetV.mk rfl HB.out
 have hl' : ¬ (l.length : Int) > 1048576 := by omega
 go_upto_region 4 with (go_at_call 14; ((with_reducible refine (spec_DrawSpineIn (.slice A l.length c) l w H.out.sl H.out.by_).mono ?_); rintro e wa ⟨us, vs, vb, ls, f, b, rfl, h1, h2, hd, hbl, hbb⟩; obtain ⟨A1, c1, A2, c2, rfl, rfl⟩ := SpS.form h1; have HS := Aside0.mk h1; have HD := Aside0.mk hd; have HSB := Aside0.mk (SpD.b hd); have HV := Aside0.mk h2; have HBL := Aside0.mk (Nat.le_trans hbl (by decide) : b.length ≤ 1048576); replace HB := Aside0.mk hbb; clear h1 hd hbb h2))
 refine name_world fun W1 hW => ?_
 have BS_ : W1.heap[wa.heap.size]? = some (.cells #[.slice A1 ls.length c1, .slice A2 f.length c2] 26 (0, 0)) := by rw [hW]; exact blk_new wa _
 have hb1 : Below wa.heap.size wa W1 := by rw [hW]; repeat (first | exact Below.refl _ _ | apply below_alloc | refine below_set ?_ (by simp))
 clear hW
 generalize hS : wa.heap.size = S at BS_ ⊢
 (try replace HS := Aside0.mk (HS.out.below hb1))
 (try replace HV := Aside0.mk (HV.out.below hb1))
 (try replace HP := Aside0.mk (HP.out.below hb1))
 (try replace HX := Aside0.mk (HX.out.below hb1))
 (try replace HZ := Aside0.mk (HZ.out.below hb1))
 (try replace HW := Aside0.mk (HW.out.below hb1))
 (try replace BS := Aside0.mk (blk_below BS.out hb1))
 (try replace BP := Aside0.mk (blk_below BP.out hb1))
 (try replace BX := Aside0.mk (blk_below BX.out hb1))
 (try replace BZ := Aside0.mk (blk_below BZ.out hb1))
 (try replace BW := Aside0.mk (blk_below BW.out hb1))
 (try replace s0 := pw_cell_below hb1 s0)
 (try replace s1 := pw_cell_below hb1 s1)
 (try replace p0 := pw_cell_below hb1 p0)
 (try replace p1 := pw_cell_below hb1 p1)
 (try replace x0 := pw_cell_below hb1 x0)
 (try replace x1 := pw_cell_below hb1 x1)
 (try replace z0 := pw_cell_below hb1 z0)
 (try replace z1 := pw_cell_below hb1 z1)
 (try replace y0 := pw_cell_below hb1 y0)
 (try replace y1 := pw_cell_below hb1 y1)
 replace HB := Aside0.mk (bthen HB.out hb1)
 have BS := Aside0.mk BS_
 clear BS_ hS hb1
 have s0 := blk_cell BS.out 0
 have s1 := blk_cell BS.out 1
 obtain ⟨L, F, B, HLE, HCS, HCI⟩ : ∃ (L : List (List Rw)) (F : List Tm) (B : Bool), Aside0 (L = inL ls f b ∧ F = inF ls f b ∧ B = inB ls f b) ∧ Aside0 (∀ W, SpS W (.slice A1 ls.length c1) (.slice A2 f.length c2) ls f → (Sl kRw W vb b) → Calls Try.prog 19 #[.agg #[.slice A1 ls.length c1, .slice A2 f.length c2], vb] W (SpU W L F B)) ∧ Aside0 (∀ W, SpS W (.slice A1 ls.length c1) (.slice A2 f.length c2) ls f → (Sl kRw W vb b) → Calls Try.prog 15 #[.agg #[.slice A1 ls.length c1, .slice A2 f.length c2], vb] W (SpQ W L F B)) := ⟨_, _, _, ⟨rfl, rfl, rfl⟩, ⟨fun W hw hv => spec_SpineIn (.slice A1 ls.length c1) (.slice A2 f.length c2) vb ls f b W hw hv HSB.out HBL.out⟩, ⟨fun W hw hv => impl_SpineIn (.slice A1 ls.length c1) (.slice A2 f.length c2) vb ls f b W hw hv HSB.out HBL.out⟩⟩
 have HXB : Aside0 (SpB L F) := ⟨by obtain ⟨e1, e2, e3⟩ := HLE.out; rw [e1, e2]; exact inSp HSB.out HBL.out⟩
 go_upto_region 5 with (go_at_call 19; ((with_reducible refine (HCS.out W1 HS.out HV.out).mono ?_); rintro e wb ⟨ua, va, rfl, hr, hb⟩; obtain ⟨A3, c3, A4, c4, rfl, rfl⟩ := SpS.form hr.s; have HP := Aside0.mk hr.s; (try replace HS := Aside0.mk (HS.out.below hb)); (try replace HV := Aside0.mk (HV.out.below hb)); (try replace HP := Aside0.mk (HP.out.below hb)); (try replace HX := Aside0.mk (HX.out.below hb)); (try replace HZ := Aside0.mk (HZ.out.below hb)); (try replace HW := Aside0.mk (HW.out.below hb)); (try replace BS := Aside0.mk (blk_below BS.out hb)); (try replace BP := Aside0.mk (blk_below BP.out hb)); (try replace BX := Aside0.mk (blk_below BX.out hb)); (try replace BZ := Aside0.mk (blk_below BZ.out hb)); (try replace BW := Aside0.mk (blk_below BW.out hb)); (try replace s0 := pw_cell_below hb s0); (try replace s1 := pw_cell_below hb s1); (try replace p0 := pw_cell_below hb p0); (try replace p1 := pw_cell_below hb p1); (try replace x0 := pw_cell_below hb x0); (try replace x1 := pw_cell_below hb x1); (try replace z0 := pw_cell_below hb z0); (try replace z1 := pw_cell_below hb z1); (try replace y0 := pw_cell_below hb y0); (try replace y1 := pw_cell_below hb y1); replace HB := Aside0.mk (bthen HB.out hb); clear hr hb))
 refine name_world fun W2 hW => ?_
 have BP_ : W2.heap[wb.heap.size]? = some (.cells #[.slice A3 L.length c3, .slice A4 F.length c4] 26 (0, 0)) := by rw [hW]; exact blk_new wb _
 have hb1 : Below wb.heap.size wb W2 := by rw [hW]; repeat (first | exact Below.refl _ _ | apply below_alloc | refine below_set ?_ (by simp))
 clear hW
 generalize hP : wb.heap.size = P at BP_ ⊢
 (try replace HS := Aside0.mk (HS.out.below hb1))
 (try replace HV := Aside0.mk (HV.out.below hb1))
 (try replace HP := Aside0.mk (HP.out.below hb1))
 (try replace HX := Aside0.mk (HX.out.below hb1))
 (try replace HZ := Aside0.mk (HZ.out.below hb1))
 (try replace HW := Aside0.mk (HW.out.below hb1))
 (try replace BS := Aside0.mk (blk_below BS.out hb1))
 (try replace BP := Aside0.mk (blk_below BP.out hb1))
 (try replace BX := Aside0.mk (blk_below BX.out hb1))
 (try replace BZ := Aside0.mk (blk_below BZ.out hb1))
 (try replace BW := Aside0.mk (blk_below BW.out hb1))
 (try replace s0 := pw_cell_below hb1 s0)
 (try replace s1 := pw_cell_below hb1 s1)
 (try replace p0 := pw_cell_below hb1 p0)
 (try replace p1 := pw_cell_below hb1 p1)
 (try replace x0 := pw_cell_below hb1 x0)
 (try replace x1 := pw_cell_below hb1 x1)
 (try replace z0 := pw_cell_below hb1 z0)
 (try replace z1 := pw_cell_below hb1 z1)
 (try replace y0 := pw_cell_below hb1 y0)
 (try replace y1 := pw_cell_below hb1 y1)
 replace HB := Aside0.mk (bthen HB.out hb1)
 have BP := Aside0.mk BP_
 clear BP_ hP hb1
 have p0 := blk_cell BP.out 0
 have p1 := blk_cell BP.out 1
 go_upto_region 6 with (go_at_call 15; ((with_reducible refine (HCI.out W2 HS.out HV.out).mono ?_); rintro e wc ⟨ua, va, rfl, hr, hb⟩; obtain ⟨A5, c5, A6, c6, rfl, rfl⟩ := SpS.form hr.s; have HX := Aside0.mk hr.s; (try replace HS := Aside0.mk (HS.out.below hb)); (try replace HV := Aside0.mk (HV.out.below hb)); (try replace HP := Aside0.mk (HP.out.below hb)); (try replace HX := Aside0.mk (HX.out.below hb)); (try replace HZ := Aside0.mk (HZ.out.below hb)); (try replace HW := Aside0.mk (HW.out.below hb)); (try replace BS := Aside0.mk (blk_below BS.out hb)); (try replace BP := Aside0.mk (blk_below BP.out hb)); (try replace BX := Aside0.mk (blk_below BX.out hb)); (try replace BZ := Aside0.mk (blk_below BZ.out hb)); (try replace BW := Aside0.mk (blk_below BW.out hb)); (try replace s0 := pw_cell_below hb s0); (try replace s1 := pw_cell_below hb s1); (try replace p0 := pw_cell_below hb p0); (try replace p1 := pw_cell_below hb p1); (try replace x0 := pw_cell_below hb x0); (try replace x1 := pw_cell_below hb x1); (try replace z0 := pw_cell_below hb z0); (try replace z1 := pw_cell_below hb z1); (try replace y0 := pw_cell_below hb y0); (try replace y1 := pw_cell_below hb y1); replace HB := Aside0.mk (bthen HB.out hb); clear hr hb))
 refine name_world fun W3 hW => ?_
 have BX_ : W3.heap[wc.heap.size]? = some (.cells #[.slice A5 L.length c5, .slice A6 F.length c6] 26 (0, 0)) := by rw [hW]; exact blk_new wc _
 have hb1 : Below wc.heap.size wc W3 := by rw [hW]; repeat (first | exact Below.refl _ _ | apply below_alloc | refine below_set ?_ (by simp))
 clear hW
 generalize hX : wc.heap.size = X at BX_ ⊢
 (try replace HS := Aside0.mk (HS.out.below hb1))
 (try replace HV := Aside0.mk (HV.out.below hb1))
 (try replace HP := Aside0.mk (HP.out.below hb1))
 (try replace HX := Aside0.mk (HX.out.below hb1))
 (try replace HZ := Aside0.mk (HZ.out.below hb1))
 (try replace HW := Aside0.mk (HW.out.below hb1))
 (try replace BS := Aside0.mk (blk_below BS.out hb1))
 (try replace BP := Aside0.mk (blk_below BP.out hb1))
 (try replace BX := Aside0.mk (blk_below BX.out hb1))
 (try replace BZ := Aside0.mk (blk_below BZ.out hb1))
 (try replace BW := Aside0.mk (blk_below BW.out hb1))
 (try replace s0 := pw_cell_below hb1 s0)
 (try replace s1 := pw_cell_below hb1 s1)
 (try replace p0 := pw_cell_below hb1 p0)
 (try replace p1 := pw_cell_below hb1 p1)
 (try replace x0 := pw_cell_below hb1 x0)
 (try replace x1 := pw_cell_below hb1 x1)
 (try replace z0 := pw_cell_below hb1 z0)
 (try replace z1 := pw_cell_below hb1 z1)
 (try replace y0 := pw_cell_below hb1 y0)
 (try replace y1 := pw_cell_below hb1 y1)
 replace HB := Aside0.mk (bthen HB.out hb1)
 have BX := Aside0.mk BX_
 clear BX_ hX hb1
 have x0 := blk_cell BX.out 0
 have x1 := blk_cell BX.out 1
 clear HCS HCI
 cases B
 ·go_wp2_with (go_at_call 20; ((with_reducible refine (laws_lwSpine (.slice A5 L.length c5) (.slice A6 F.length c6) (.slice A3 L.length c3) (.slice A4 F.length c4) L F _ HX.out HP.out).mono ?_); rintro e wd ⟨rfl, hb⟩; (try replace HS := Aside0.mk (HS.out.below hb)); (try replace HV := Aside0.mk (HV.out.below hb)); (try replace HP := Aside0.mk (HP.out.below hb)); (try replace HX := Aside0.mk (HX.out.below hb)); (try replace HZ := Aside0.mk (HZ.out.below hb)); (try replace HW := Aside0.mk (HW.out.below hb)); (try replace BS := Aside0.mk (blk_below BS.out hb)); (try replace BP := Aside0.mk (blk_below BP.out hb)); (try replace BX := Aside0.mk (blk_below BX.out hb)); (try replace BZ := Aside0.mk (blk_below BZ.out hb)); (try replace BW := Aside0.mk (blk_below BW.out hb)); (try replace s0 := pw_cell_below hb s0); (try replace s1 := pw_cell_below hb s1); (try replace p0 := pw_cell_below hb p0); (try replace p1 := pw_cell_below hb p1); (try replace x0 := pw_cell_below hb x0); (try replace x1 := pw_cell_below hb x1); (try replace z0 := pw_cell_below hb z0); (try replace z1 := pw_cell_below hb z1); (try replace y0 := pw_cell_below hb y0); (try replace y1 := pw_cell_below hb y1); replace HB := Aside0.mk (bthen HB.out hb); clear hb))
  go_ret
  exact RetV.mk rfl HB.out
 ·go_upto_region 8 with (go_at_call 20; ((with_reducible refine (laws_lwSpine (.slice A5 L.length c5) (.slice A6 F.length c6) (.slice A3 L.length c3) (.slice A4 F.length c4) L F _ HX.out HP.out).mono ?_); rintro e wd ⟨rfl, hb⟩; (try replace HS := Aside0.mk (HS.out.below hb)); (try replace HV := Aside0.mk (HV.out.below hb)); (try replace HP := Aside0.mk (HP.out.below hb)); (try replace HX := Aside0.mk (HX.out.below hb)); (try replace HZ := Aside0.mk (HZ.out.below hb)); (try replace HW := Aside0.mk (HW.out.below hb)); (try replace BS := Aside0.mk (blk_below BS.out hb)); (try replace BP := Aside0.mk (blk_below BP.out hb)); (try replace BX := Aside0.mk (blk_below BX.out hb)); (try replace BZ := Aside0.mk (blk_below BZ.out hb)); (try replace BW := Aside0.mk (blk_below BW.out hb)); (try replace s0 := pw_cell_below hb s0); (try replace s1 := pw_cell_below hb s1); (try replace p0 := pw_cell_below hb p0); (try replace p1 := pw_cell_below hb p1); (try replace x0 := pw_cell_below hb x0); (try replace x1 := pw_cell_below hb x1); (try replace z0 := pw_cell_below hb z0); (try replace z1 := pw_cell_below hb z1); (try replace y0 := pw_cell_below hb y0); (try replace y1 := pw_cell_below hb y1); replace HB := Aside0.mk (bthen HB.out hb); clear hb))
  obtain ⟨eL, eF, eB⟩ := HLE.out
  obtain ⟨m, h1, h2, h3, h4⟩ := inL_last eB.symm
  rw [← eL] at h1 h2
  rw [← eF] at h3
  subst h3
  clear eL eF eB HLE
  obtain ⟨ad, B0, d0, e, l0, hl0⟩ := SpS.lay HX.out (k := m) (by omega)
  cases e
  rw [h2] at l0 hl0
  have HL0 := Aside0.mk hl0
  have hl8 := HD.out.few
  have ew : wrap64 ((ls.length : Int) + 1) = (ls.length : Int) + 1 := by unfold wrap64; omega
  have hmL : (m : Int) < (L.length : Int) := by omega
  have HCR := Aside0.mk (lwRowsT (.slice B0 b.length d0) vb b wd HL0.out HV.out)
  clear hl0 h2
  rcases h4 with ⟨rfl, h6⟩ | ⟨rfl, h6⟩
  ·have h6z : (ls.length : Int) + 1 > 6 := by omega
   have q1 : ((L.length : Int) == 6) = true := by rw [h1]; rfl
   have hm5 : (5 : Int) < (L.length : Int) := hmL
   have l5 : wd.cell? ⟨ad.block, ad.off + 5, none⟩ = some (.slice B0 b.length d0) := l0
   clear h1 hmL
   go_wp2_with (first
    | (go_at_call 33; ((with_reducible refine HCR.out.mono ?_); rintro e we ⟨rfl, hb⟩; (try replace HS := Aside0.mk (HS.out.below hb)); (try replace HV := Aside0.mk (HV.out.below hb)); (try replace HP := Aside0.mk (HP.out.below hb)); (try replace HX := Aside0.mk (HX.out.below hb)); (try replace HZ := Aside0.mk (HZ.out.below hb)); (try replace HW := Aside0.mk (HW.out.below hb)); (try replace BS := Aside0.mk (blk_below BS.out hb)); (try replace BP := Aside0.mk (blk_below BP.out hb)); (try replace BX := Aside0.mk (blk_below BX.out hb)); (try replace BZ := Aside0.mk (blk_below BZ.out hb)); (try replace BW := Aside0.mk (blk_below BW.out hb)); (try replace s0 := pw_cell_below hb s0); (try replace s1 := pw_cell_below hb s1); (try replace p0 := pw_cell_below hb p0); (try replace p1 := pw_cell_below hb p1); (try replace x0 := pw_cell_below hb x0); (try replace x1 := pw_cell_below hb x1); (try replace z0 := pw_cell_below hb z0); (try replace z1 := pw_cell_below hb z1); (try replace y0 := pw_cell_below hb y0); (try replace y1 := pw_cell_below hb y1); replace HB := Aside0.mk (bthen HB.out hb); clear hb))
    | (go_at_call 45; ((with_reducible refine (lwTimesT (.slice A6 F.length c6) (.slice A2 F.length c2) F _ HX.out.tm HS.out.tm).mono ?_); rintro e wf ⟨rfl, hb⟩; (try replace HS := Aside0.mk (HS.out.below hb)); (try replace HV := Aside0.mk (HV.out.below hb)); (try replace HP := Aside0.mk (HP.out.below hb)); (try replace HX := Aside0.mk (HX.out.below hb)); (try replace HZ := Aside0.mk (HZ.out.below hb)); (try replace HW := Aside0.mk (HW.out.below hb)); (try replace BS := Aside0.mk (blk_below BS.out hb)); (try replace BP := Aside0.mk (blk_below BP.out hb)); (try replace BX := Aside0.mk (blk_below BX.out hb)); (try replace BZ := Aside0.mk (blk_below BZ.out hb)); (try replace BW := Aside0.mk (blk_below BW.out hb)); (try replace s0 := pw_cell_below hb s0); (try replace s1 := pw_cell_below hb s1); (try replace p0 := pw_cell_below hb p0); (try replace p1 := pw_cell_below hb p1); (try replace x0 := pw_cell_below hb x0); (try replace x1 := pw_cell_below hb x1); (try replace z0 := pw_cell_below hb z0); (try replace z1 := pw_cell_below hb z1); (try replace y0 := pw_cell_below hb y0); (try replace y1 := pw_cell_below hb y1); replace HB := Aside0.mk (bthen HB.out hb); clear hb)))
   go_ret
   exact RetV.mk rfl HB.out
  ·have h6z : ¬ (ls.length : Int) + 1 > 6 := by omega
   have q1 : ((L.length : Int) == (ls.length : Int) + 1) = true := by rw [h1]; simp
   have ew2 : wrap64 ((ls.length : Int) + 1 - 1) = (ls.length : Int) := by unfold wrap64; omega
   clear h1
   go_wp2_with (first
    | (go_at_call 33; ((with_reducible refine HCR.out.mono ?_); rintro e we ⟨rfl, hb⟩; (try replace HS := Aside0.mk (HS.out.below hb)); (try replace HV := Aside0.mk (HV.out.below hb)); (try replace HP := Aside0.mk (HP.out.below hb)); (try replace HX := Aside0.mk (HX.out.below hb)); (try replace HZ := Aside0.mk (HZ.out.below hb)); (try replace HW := Aside0.mk (HW.out.below hb)); (try replace BS := Aside0.mk (blk_below BS.out hb)); (try replace BP := Aside0.mk (blk_below BP.out hb)); (try replace BX := Aside0.mk (blk_below BX.out hb)); (try replace BZ := Aside0.mk (blk_below BZ.out hb)); (try replace BW := Aside0.mk (blk_below BW.out hb)); (try replace s0 := pw_cell_below hb s0); (try replace s1 := pw_cell_below hb s1); (try replace p0 := pw_cell_below hb p0); (try replace p1 := pw_cell_below hb p1); (try replace x0 := pw_cell_below hb x0); (try replace x1 := pw_cell_below hb x1); (try replace z0 := pw_cell_below hb z0); (try replace z1 := pw_cell_below hb z1); (try replace y0 := pw_cell_below hb y0); (try replace y1 := pw_cell_below hb y1); replace HB := Aside0.mk (bthen HB.out hb); clear hb))
    | (go_at_call 45; ((with_reducible refine (lwTimesT (.slice A6 F.length c6) (.slice A2 F.length c2) F _ HX.out.tm HS.out.tm).mono ?_); rintro e wf ⟨rfl, hb⟩; (try replace HS := Aside0.mk (HS.out.below hb)); (try replace HV := Aside0.mk (HV.out.below hb)); (try replace HP := Aside0.mk (HP.out.below hb)); (try replace HX := Aside0.mk (HX.out.below hb)); (try replace HZ := Aside0.mk (HZ.out.below hb)); (try replace HW := Aside0.mk (HW.out.below hb)); (try replace BS := Aside0.mk (blk_below BS.out hb)); (try replace BP := Aside0.mk (blk_below BP.out hb)); (try replace BX := Aside0.mk (blk_below BX.out hb)); (try replace BZ := Aside0.mk (blk_below BZ.out hb)); (try replace BW := Aside0.mk (blk_below BW.out hb)); (try replace s0 := pw_cell_below hb s0); (try replace s1 := pw_cell_below hb s1); (try replace p0 := pw_cell_below hb p0); (try replace p1 := pw_cell_below hb p1); (try replace x0 := pw_cell_below hb x0); (try replace x1 := pw_cell_below hb x1); (try replace z0 := pw_cell_below hb z0); (try replace z1 := pw_cell_below hb z1); (try replace y0 := pw_cell_below hb y0); (try replace y1 := pw_cell_below hb y1); replace HB := Aside0.mk (bthen HB.out hb); clear hb)))
   go_ret
   exact RetV.mk rfl HB.out
end Go.Proofs.Ytkdendlgaaimbaa.X
