/- Conditions: none. -/
import Derived.Test.YtkdendlgaaimbaaYELwSp
import Derived.Test.YtkdendlgaaimbaaYEDrSr
import Derived.Test.YtkdendlgaaimbaaYEBytes
import Derived.RegionTactic
import Derived.BigRegion
namespace Go.Proofs.Ytkdendlgaaimbaa.X
open Go.RowKit Go.Proofs.YtkdendlgaaimbaaW.PrintWords Go.Proofs.YtkdendlgaaimbaaW.PrintLast
set_option linter.unusedVariables false
set_option linter.unusedSimpArgs false
set_option maxRecDepth 100000 in
set_option maxHeartbeats 4000000 in
theorem laws_FnSpineEmpty (v : Value) (l : List Int) (w : World) (h : IsBytes w v l) : Calls Try.prog 12 #[v] w (RetV w (.bool true)) := by
 have H := Aside0.mk h
 obtain ⟨⟨A, c, rfl, hc, hr⟩, hb⟩ := h
 have hm := Kd.C_max hr
 clear hr hb
 have HB := Aside0.mk (Below.refl w.heap.size w)
 go_enter Try.func12, Try.ntmps12
 by_cases hl : 1048576 < l.length
 ·have hl' : (l.length : Int) > 1048576 := by omega
  go_wp2
  go_ret
  exact RetV.mk rfl HB.out
 have hl' : ¬ (l.length : Int) > 1048576 := by omega
 go_upto_region 4 with (go_at_call 55; ((with_reducible refine (spec_DrawSpineOk (.slice A l.length c) l w H.out.sl H.out.by_).mono ?_); rintro e wa ⟨us, vs, ls, f, rfl, h1, hd, hbb⟩; obtain ⟨A1, c1, A2, c2, rfl, rfl⟩ := SpS.form h1; have HS := Aside0.mk h1; have HD := Aside0.mk hd; have HSB := Aside0.mk (SpD.b hd); replace HB := Aside0.mk hbb; clear h1 hd hbb))
 refine name_world fun W1 hW => ?_
 have BS_ : W1.heap[wa.heap.size]? = some (.cells #[.slice A1 ls.length c1, .slice A2 f.length c2] 26 (0, 0)) := by rw [hW]; exact blk_new wa _
 have hb1 : Below wa.heap.size wa W1 := by rw [hW]; repeat (first | exact Below.refl _ _ | apply below_alloc | refine below_set ?_ (by simp))
 clear hW
 generalize hS : wa.heap.size = S at BS_ ⊢
 (try replace HS := Aside0.mk (HS.out.below hb1))
 (try replace HV := Aside0.mk (HV.out.below hb1))
 (try replace HP := Aside0.mk (HP.out.below hb1))
 (try replace HX := Aside0.mk (HX.out.below hb1))
 (try replace HZ := Aside0.mk (HZ.out.below hb1))
 (try replace HW := Aside0.mk (HW.out.below hb1))
 (try replace BS := Aside0.mk (blk_below BS.out hb1))
 (try replace BP := Aside0.mk (blk_below BP.out hb1))
 (try replace BX := Aside0.mk (blk_below BX.out hb1))
 (try replace BZ := Aside0.mk (blk_below BZ.out hb1))
 (try replace BW := Aside0.mk (blk_below BW.out hb1))
 (try replace s0 := pw_cell_below hb1 s0)
 (try replace s1 := pw_cell_below hb1 s1)
 (try replace p0 := pw_cell_below hb1 p0)
 (try replace p1 := pw_cell_below hb1 p1)
 (try replace x0 := pw_cell_below hb1 x0)
 (try replace x1 := pw_cell_below hb1 x1)
 (try replace z0 := pw_cell_below hb1 z0)
 (try replace z1 := pw_cell_below hb1 z1)
 (try replace y0 := pw_cell_below hb1 y0)
 (try replace y1 := pw_cell_below hb1 y1)
 replace HB := Aside0.mk (bthen HB.out hb1)
 have BS := Aside0.mk BS_
 clear BS_ hS hb1
 have s0 := blk_cell BS.out 0
 have s1 := blk_cell BS.out 1
 cases hok : spineOk ls f
 ·go_wp2_with (first
   | (go_at_call 21; ((with_reducible refine (spOkI (.slice A1 ls.length c1) (.slice A2 f.length c2) ls f _ HS.out HSB.out.l hok).mono ?_); rintro e wo ⟨rfl, hb⟩; (try replace HS := Aside0.mk (HS.out.below hb)); (try replace HV := Aside0.mk (HV.out.below hb)); (try replace HP := Aside0.mk (HP.out.below hb)); (try replace HX := Aside0.mk (HX.out.below hb)); (try replace HZ := Aside0.mk (HZ.out.below hb)); (try replace HW := Aside0.mk (HW.out.below hb)); (try replace BS := Aside0.mk (blk_below BS.out hb)); (try replace BP := Aside0.mk (blk_below BP.out hb)); (try replace BX := Aside0.mk (blk_below BX.out hb)); (try replace BZ := Aside0.mk (blk_below BZ.out hb)); (try replace BW := Aside0.mk (blk_below BW.out hb)); (try replace s0 := pw_cell_below hb s0); (try replace s1 := pw_cell_below hb s1); (try replace p0 := pw_cell_below hb p0); (try replace p1 := pw_cell_below hb p1); (try replace x0 := pw_cell_below hb x0); (try replace x1 := pw_cell_below hb x1); (try replace z0 := pw_cell_below hb z0); (try replace z1 := pw_cell_below hb z1); (try replace y0 := pw_cell_below hb y0); (try replace y1 := pw_cell_below hb y1); replace HB := Aside0.mk (bthen HB.out hb); clear hb))
   | (go_at_call 28; ((with_reducible refine (spOkS (.slice A1 ls.length c1) (.slice A2 f.length c2) ls f _ HS.out hok).mono ?_); rintro e wo ⟨rfl, hb⟩; (try replace HS := Aside0.mk (HS.out.below hb)); (try replace HV := Aside0.mk (HV.out.below hb)); (try replace HP := Aside0.mk (HP.out.below hb)); (try replace HX := Aside0.mk (HX.out.below hb)); (try replace HZ := Aside0.mk (HZ.out.below hb)); (try replace HW := Aside0.mk (HW.out.below hb)); (try replace BS := Aside0.mk (blk_below BS.out hb)); (try replace BP := Aside0.mk (blk_below BP.out hb)); (try replace BX := Aside0.mk (blk_below BX.out hb)); (try replace BZ := Aside0.mk (blk_below BZ.out hb)); (try replace BW := Aside0.mk (blk_below BW.out hb)); (try replace s0 := pw_cell_below hb s0); (try replace s1 := pw_cell_below hb s1); (try replace p0 := pw_cell_below hb p0); (try replace p1 := pw_cell_below hb p1); (try replace x0 := pw_cell_below hb x0); (try replace x1 := pw_cell_below hb x1); (try replace z0 := pw_cell_below hb z0); (try replace z1 := pw_cell_below hb z1); (try replace y0 := pw_cell_below hb y0); (try replace y1 := pw_cell_below hb y1); replace HB := Aside0.mk (bthen HB.out hb); clear hb)))
  go_ret
  exact RetV.mk rfl HB.out
 ·have hso := spineOk_iff.1 hok
  have hin := spineEmpty_in hso (Int.le_trans HD.out.mass (by decide))
  obtain ⟨g1, g2, g3, g4, g5⟩ := inB_iff.1 hin
  have HAT := Aside0.mk (fun (t : Tm) (ht : tOk t = true) (hm : askOk f t = true) => spineEmpty_at hin ht hm)
  have eL : inL ls f [] = inBase ls f ++ [[]] := if_pos hin
  rw [← eL] at g5
  have HA1 := Aside0.mk (ask_same g5 hso (fun t ht hm => HAT.out t ht hm))
  have HA2 := Aside0.mk (ask_same hso g5 (fun t ht hm => (HAT.out t ht hm).symm))
  have HXB := Aside0.mk (inSp HSB.out (show ([] : List Rw).length ≤ 1048576 by decide))
  have HCI : Aside0 (∀ W, SpS W (.slice A1 ls.length c1) (.slice A2 f.length c2) ls f → Calls Try.prog 15 #[.agg #[.slice A1 ls.length c1, .slice A2 f.length c2], .slice none 0 0] W (SpQ W (inL ls f []) f true)) := ⟨fun W hW => by
   have := impl_SpineIn (.slice A1 ls.length c1) (.slice A2 f.length c2) (.slice none 0 0) ls f [] W hW (Sl.nil kRw W) HSB.out (by decide)
   rwa [hin, show inF ls f [] = f from if_pos hin] at this⟩
  rw [show inF ls f [] = f from if_pos hin] at HXB
  generalize inL ls f [] = L at HA1 HA2 HXB HCI
  clear hso hin g1 g2 g3 g4 g5 HAT eL
  go_upto_region 7 with (first
   | (go_at_call 21; ((with_reducible refine (spOkI (.slice A1 ls.length c1) (.slice A2 f.length c2) ls f _ HS.out HSB.out.l hok).mono ?_); rintro e wo ⟨rfl, hb⟩; (try replace HS := Aside0.mk (HS.out.below hb)); (try replace HV := Aside0.mk (HV.out.below hb)); (try replace HP := Aside0.mk (HP.out.below hb)); (try replace HX := Aside0.mk (HX.out.below hb)); (try replace HZ := Aside0.mk (HZ.out.below hb)); (try replace HW := Aside0.mk (HW.out.below hb)); (try replace BS := Aside0.mk (blk_below BS.out hb)); (try replace BP := Aside0.mk (blk_below BP.out hb)); (try replace BX := Aside0.mk (blk_below BX.out hb)); (try replace BZ := Aside0.mk (blk_below BZ.out hb)); (try replace BW := Aside0.mk (blk_below BW.out hb)); (try replace s0 := pw_cell_below hb s0); (try replace s1 := pw_cell_below hb s1); (try replace p0 := pw_cell_below hb p0); (try replace p1 := pw_cell_below hb p1); (try replace x0 := pw_cell_below hb x0); (try replace x1 := pw_cell_below hb x1); (try replace z0 := pw_cell_below hb z0); (try replace z1 := pw_cell_below hb z1); (try replace y0 := pw_cell_below hb y0); (try replace y1 := pw_cell_below hb y1); replace HB := Aside0.mk (bthen HB.out hb); clear hb))
   | (go_at_call 28; ((with_reducible refine (spOkS (.slice A1 ls.length c1) (.slice A2 f.length c2) ls f _ HS.out hok).mono ?_); rintro e wo ⟨rfl, hb⟩; (try replace HS := Aside0.mk (HS.out.below hb)); (try replace HV := Aside0.mk (HV.out.below hb)); (try replace HP := Aside0.mk (HP.out.below hb)); (try replace HX := Aside0.mk (HX.out.below hb)); (try replace HZ := Aside0.mk (HZ.out.below hb)); (try replace HW := Aside0.mk (HW.out.below hb)); (try replace BS := Aside0.mk (blk_below BS.out hb)); (try replace BP := Aside0.mk (blk_below BP.out hb)); (try replace BX := Aside0.mk (blk_below BX.out hb)); (try replace BZ := Aside0.mk (blk_below BZ.out hb)); (try replace BW := Aside0.mk (blk_below BW.out hb)); (try replace s0 := pw_cell_below hb s0); (try replace s1 := pw_cell_below hb s1); (try replace p0 := pw_cell_below hb p0); (try replace p1 := pw_cell_below hb p1); (try replace x0 := pw_cell_below hb x0); (try replace x1 := pw_cell_below hb x1); (try replace z0 := pw_cell_below hb z0); (try replace z1 := pw_cell_below hb z1); (try replace y0 := pw_cell_below hb y0); (try replace y1 := pw_cell_below hb y1); replace HB := Aside0.mk (bthen HB.out hb); clear hb)))
  go_upto_region 8 with (go_at_call 15; ((with_reducible refine (HCI.out _ HS.out).mono ?_); rintro e wc ⟨ua, va, rfl, hr, hb⟩; obtain ⟨A5, c5, A6, c6, rfl, rfl⟩ := SpS.form hr.s; have HX := Aside0.mk hr.s; (try replace HS := Aside0.mk (HS.out.below hb)); (try replace HV := Aside0.mk (HV.out.below hb)); (try replace HP := Aside0.mk (HP.out.below hb)); (try replace HX := Aside0.mk (HX.out.below hb)); (try replace HZ := Aside0.mk (HZ.out.below hb)); (try replace HW := Aside0.mk (HW.out.below hb)); (try replace BS := Aside0.mk (blk_below BS.out hb)); (try replace BP := Aside0.mk (blk_below BP.out hb)); (try replace BX := Aside0.mk (blk_below BX.out hb)); (try replace BZ := Aside0.mk (blk_below BZ.out hb)); (try replace BW := Aside0.mk (blk_below BW.out hb)); (try replace s0 := pw_cell_below hb s0); (try replace s1 := pw_cell_below hb s1); (try replace p0 := pw_cell_below hb p0); (try replace p1 := pw_cell_below hb p1); (try replace x0 := pw_cell_below hb x0); (try replace x1 := pw_cell_below hb x1); (try replace z0 := pw_cell_below hb z0); (try replace z1 := pw_cell_below hb z1); (try replace y0 := pw_cell_below hb y0); (try replace y1 := pw_cell_below hb y1); replace HB := Aside0.mk (bthen HB.out hb); clear hr hb))
  refine name_world fun W3 hW => ?_
  have BX_ : W3.heap[wc.heap.size]? = some (.cells #[.slice A5 L.length c5, .slice A6 f.length c6] 26 (0, 0)) := by rw [hW]; exact blk_new wc _
  have hb1 : Below wc.heap.size wc W3 := by rw [hW]; repeat (first | exact Below.refl _ _ | apply below_alloc | refine below_set ?_ (by simp))
  clear hW
  generalize hX : wc.heap.size = X at BX_ ⊢
  (try replace HS := Aside0.mk (HS.out.below hb1))
  (try replace HV := Aside0.mk (HV.out.below hb1))
  (try replace HP := Aside0.mk (HP.out.below hb1))
  (try replace HX := Aside0.mk (HX.out.below hb1))
  (try replace HZ := Aside0.mk (HZ.out.below hb1))
  (try replace HW := Aside0.mk (HW.out.below hb1))
  (try replace BS := Aside0.mk (blk_below BS.out hb1))
  (try replace BP := Aside0.mk (blk_below BP.out hb1))
  (try replace BX := Aside0.mk (blk_below BX.out hb1))
  (try replace BZ := Aside0.mk (blk_below BZ.out hb1))
  (try replace BW := Aside0.mk (blk_below BW.out hb1))
  (try replace s0 := pw_cell_below hb1 s0)
  (try replace s1 := pw_cell_below hb1 s1)
  (try replace p0 := pw_cell_below hb1 p0)
  (try replace p1 := pw_cell_below hb1 p1)
  (try replace x0 := pw_cell_below hb1 x0)
  (try replace x1 := pw_cell_below hb1 x1)
  (try replace z0 := pw_cell_below hb1 z0)
  (try replace z1 := pw_cell_below hb1 z1)
  (try replace y0 := pw_cell_below hb1 y0)
  (try replace y1 := pw_cell_below hb1 y1)
  replace HB := Aside0.mk (bthen HB.out hb1)
  have BX := Aside0.mk BX_
  clear BX_ hX hb1
  have x0 := blk_cell BX.out 0
  have x1 := blk_cell BX.out 1
  go_wp2_with (first
   | (go_at_call 44; ((with_reducible refine (laws_lwAsk (.slice A1 ls.length c1) (.slice A2 f.length c2) (.slice A5 L.length c5) (.slice A6 f.length c6) ls L f f _ HS.out HX.out HSB.out HXB.out HA1.out).mono ?_); rintro e we ⟨rfl, hb⟩; (try replace HS := Aside0.mk (HS.out.below hb)); (try replace HV := Aside0.mk (HV.out.below hb)); (try replace HP := Aside0.mk (HP.out.below hb)); (try replace HX := Aside0.mk (HX.out.below hb)); (try replace HZ := Aside0.mk (HZ.out.below hb)); (try replace HW := Aside0.mk (HW.out.below hb)); (try replace BS := Aside0.mk (blk_below BS.out hb)); (try replace BP := Aside0.mk (blk_below BP.out hb)); (try replace BX := Aside0.mk (blk_below BX.out hb)); (try replace BZ := Aside0.mk (blk_below BZ.out hb)); (try replace BW := Aside0.mk (blk_below BW.out hb)); (try replace s0 := pw_cell_below hb s0); (try replace s1 := pw_cell_below hb s1); (try replace p0 := pw_cell_below hb p0); (try replace p1 := pw_cell_below hb p1); (try replace x0 := pw_cell_below hb x0); (try replace x1 := pw_cell_below hb x1); (try replace z0 := pw_cell_below hb z0); (try replace z1 := pw_cell_below hb z1); (try replace y0 := pw_cell_below hb y0); (try replace y1 := pw_cell_below hb y1); replace HB := Aside0.mk (bthen HB.out hb); clear hb))
   | (go_at_call 44; ((with_reducible refine (laws_lwAsk (.slice A5 L.length c5) (.slice A6 f.length c6) (.slice A1 ls.length c1) (.slice A2 f.length c2) L ls f f _ HX.out HS.out HXB.out HSB.out HA2.out).mono ?_); rintro e wf ⟨rfl, hb⟩; (try replace HS := Aside0.mk (HS.out.below hb)); (try replace HV := Aside0.mk (HV.out.below hb)); (try replace HP := Aside0.mk (HP.out.below hb)); (try replace HX := Aside0.mk (HX.out.below hb)); (try replace HZ := Aside0.mk (HZ.out.below hb)); (try replace HW := Aside0.mk (HW.out.below hb)); (try replace BS := Aside0.mk (blk_below BS.out hb)); (try replace BP := Aside0.mk (blk_below BP.out hb)); (try replace BX := Aside0.mk (blk_below BX.out hb)); (try replace BZ := Aside0.mk (blk_below BZ.out hb)); (try replace BW := Aside0.mk (blk_below BW.out hb)); (try replace s0 := pw_cell_below hb s0); (try replace s1 := pw_cell_below hb s1); (try replace p0 := pw_cell_below hb p0); (try replace p1 := pw_cell_below hb p1); (try replace x0 := pw_cell_below hb x0); (try replace x1 := pw_cell_below hb x1); (try replace z0 := pw_cell_below hb z0); (try replace z1 := pw_cell_below hb z1); (try replace y0 := pw_cell_below hb y0); (try replace y1 := pw_cell_below hb y1); replace HB := Aside0.mk (bthen HB.out hb); clear hb)))
  go_ret
  exact RetV.mk rfl HB.out
end Go.Proofs.Ytkdendlgaaimbaa.X
