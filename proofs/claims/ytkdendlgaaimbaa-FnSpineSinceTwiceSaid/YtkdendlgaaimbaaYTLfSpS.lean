/- Conditions: none. -/
import Derived.Test.YtkdendlgaaimbaaYTLwSp
import Derived.Test.YtkdendlgaaimbaaYTDrSu
import Derived.Test.YtkdendlgaaimbaaYTBytes
import Derived.RegionTactic
import Derived.BigRegion
namespace Go.Proofs.Ytkdendlgaaimbaa.X
open Go.RowKit Go.Proofs.YtkdendlgaaimbaaW.PrintWords Go.Proofs.YtkdendlgaaimbaaW.PrintLast
set_option linter.unusedVariables false
set_option linter.unusedSimpArgs false
theorem since_yes {ls : List (List Rw)} {f g : List Tm} (h : sinceB ls f g = true) : SpOk ls f ∧ SpOk ls g ∧ g ≠ [] ∧ (∀ t ∈ g, askOk f t = true) ∧ sinceL ls f g = ls ∧ sinceF ls f g = g := by
 have h0 := h
 unfold sinceB at h
 simp only [Bool.and_eq_true, List.all_eq_true] at h
 have h1 := spineOk_iff.1 h.1.1.1
 refine ⟨h1, ⟨h1.lay, h1.few, h1.rows, h.1.1.2⟩, fun e => ?_, h.2, if_pos h0, if_pos h0⟩
 have := h.1.2
 rw [e] at this
 simp at this
theorem below_self (t : Tm) : below t t = true := by unfold below; simp
theorem since_again {ls : List (List Rw)} {f g : List Tm} (h : sinceB ls f g = true) : sinceB ls g g = true := by
 obtain ⟨h1, h2, h3, h4, _⟩ := since_yes h
 unfold sinceB
 simp only [Bool.and_eq_true, List.all_eq_true]
 refine ⟨⟨⟨spineOk_iff.2 h2, h2.front⟩, ?_⟩, fun t ht => askOk_iff.2 (.inr ?_)⟩
 ·cases g with
  | nil => exact absurd rfl h3
  | cons x g => rfl
 ·unfold beyond
  exact List.any_eq_true.2 ⟨t, ht, below_self t⟩
set_option maxRecDepth 100000 in
set_option maxHeartbeats 4000000 in
theorem laws_FnSpineSinceTwice (v : Value) (l : List Int) (w : World) (h : IsBytes w v l) : Calls Try.prog 4 #[v] w (RetV w (.bool true)) := by
 have H := Aside0.mk h
 obtain ⟨⟨A, c, rfl, hc, hr⟩, hb⟩ := h
 have hm := Kd.C_max hr
 clear hr hb
 have HB := Aside0.mk (Below.refl w.heap.size w)
 go_enter Try.func4, Try.ntmps4
 by_cases hl : 1048576 < l.length
 ·have hl' : (l.length : Int) > 1048576 := by omega
  go_wp2
  go_ret
  exact RetV.mk rfl HB.out
 have hl' : ¬ (l.length : Int) > 1048576 := by omega
 go_upto_region 4 with (go_at_call 22; ((with_reducible refine (spec_DrawSpineSince (.slice A l.length c) l w H.out.sl H.out.by_).mono ?_); rintro e wa ⟨us, vs, vg, ls, f, g, rfl, h1, h2, hd, hgl, hbb⟩; obtain ⟨A1, c1, A2, c2, rfl, rfl⟩ := SpS.form h1; have HS := Aside0.mk h1; have HD := Aside0.mk hd; have HSB := Aside0.mk (SpD.b hd); have HV := Aside0.mk h2; have HGL := Aside0.mk (Nat.le_trans hgl (by decide) : g.length ≤ 1048576); replace HB := Aside0.mk hbb; clear h1 hd hbb h2))
 refine name_world fun W1 hW => ?_
 have BS_ : W1.heap[wa.heap.size]? = some (.cells #[.slice A1 ls.length c1, .slice A2 f.length c2] 26 (0, 0)) := by rw [hW]; exact blk_new wa _
 have hb1 : Below wa.heap.size wa W1 := by rw [hW]; repeat (first | exact Below.refl _ _ | apply below_alloc | refine below_set ?_ (by simp))
 clear hW
 generalize hS : wa.heap.size = S at BS_ ⊢
 (try replace HS := Aside0.mk (HS.out.below hb1))
 (try replace HV := Aside0.mk (HV.out.below hb1))
 (try replace HP := Aside0.mk (HP.out.below hb1))
 (try replace HX := Aside0.mk (HX.out.below hb1))
 (try replace HZ := Aside0.mk (HZ.out.below hb1))
 (try replace HW := Aside0.mk (HW.out.below hb1))
 (try replace BS := Aside0.mk (blk_below BS.out hb1))
 (try replace BP := Aside0.mk (blk_below BP.out hb1))
 (try replace BX := Aside0.mk (blk_below BX.out hb1))
 (try replace BZ := Aside0.mk (blk_below BZ.out hb1))
 (try replace BW := Aside0.mk (blk_below BW.out hb1))
 (try replace s0 := pw_cell_below hb1 s0)
 (try replace s1 := pw_cell_below hb1 s1)
 (try replace p0 := pw_cell_below hb1 p0)
 (try replace p1 := pw_cell_below hb1 p1)
 (try replace x0 := pw_cell_below hb1 x0)
 (try replace x1 := pw_cell_below hb1 x1)
 (try replace z0 := pw_cell_below hb1 z0)
 (try replace z1 := pw_cell_below hb1 z1)
 (try replace y0 := pw_cell_below hb1 y0)
 (try replace y1 := pw_cell_below hb1 y1)
 replace HB := Aside0.mk (bthen HB.out hb1)
 have BS := Aside0.mk BS_
 clear BS_ hS hb1
 have s0 := blk_cell BS.out 0
 have s1 := blk_cell BS.out 1
 obtain ⟨L, F, B, HLE, HCS, HCI⟩ : ∃ (L : List (List Rw)) (F : List Tm) (B : Bool), Aside0 (L = sinceL ls f g ∧ F = sinceF ls f g ∧ B = sinceB ls f g) ∧ Aside0 (∀ W, SpS W (.slice A1 ls.length c1) (.slice A2 f.length c2) ls f → (Sl kTm W vg g) → Calls Try.prog 23 #[.agg #[.slice A1 ls.length c1, .slice A2 f.length c2], vg] W (SpQ W L F B)) ∧ Aside0 (∀ W, SpS W (.slice A1 ls.length c1) (.slice A2 f.length c2) ls f → (Sl kTm W vg g) → Calls Try.prog 17 #[.agg #[.slice A1 ls.length c1, .slice A2 f.length c2], vg] W (SpQ W L F B)) := ⟨_, _, _, ⟨rfl, rfl, rfl⟩, ⟨fun W hw hv => spec_SpineSince (.slice A1 ls.length c1) (.slice A2 f.length c2) vg ls f g W hw hv HSB.out HGL.out⟩, ⟨fun W hw hv => impl_SpineSince (.slice A1 ls.length c1) (.slice A2 f.length c2) vg ls f g W hw hv HSB.out HGL.out⟩⟩
 have HXB : Aside0 (SpB L F) := ⟨by obtain ⟨e1, e2, e3⟩ := HLE.out; rw [e1, e2]; exact sinceSp HSB.out HGL.out⟩
 go_upto_region 5 with (go_at_call 23; ((with_reducible refine (HCS.out W1 HS.out HV.out).mono ?_); rintro e wb ⟨ua, va, rfl, hr, hb⟩; obtain ⟨A3, c3, A4, c4, rfl, rfl⟩ := SpS.form hr.s; have HP := Aside0.mk hr.s; (try replace HS := Aside0.mk (HS.out.below hb)); (try replace HV := Aside0.mk (HV.out.below hb)); (try replace HP := Aside0.mk (HP.out.below hb)); (try replace HX := Aside0.mk (HX.out.below hb)); (try replace HZ := Aside0.mk (HZ.out.below hb)); (try replace HW := Aside0.mk (HW.out.below hb)); (try replace BS := Aside0.mk (blk_below BS.out hb)); (try replace BP := Aside0.mk (blk_below BP.out hb)); (try replace BX := Aside0.mk (blk_below BX.out hb)); (try replace BZ := Aside0.mk (blk_below BZ.out hb)); (try replace BW := Aside0.mk (blk_below BW.out hb)); (try replace s0 := pw_cell_below hb s0); (try replace s1 := pw_cell_below hb s1); (try replace p0 := pw_cell_below hb p0); (try replace p1 := pw_cell_below hb p1); (try replace x0 := pw_cell_below hb x0); (try replace x1 := pw_cell_below hb x1); (try replace z0 := pw_cell_below hb z0); (try replace z1 := pw_cell_below hb z1); (try replace y0 := pw_cell_below hb y0); (try replace y1 := pw_cell_below hb y1); replace HB := Aside0.mk (bthen HB.out hb); clear hr hb))
 refine name_world fun W2 hW => ?_
 have BP_ : W2.heap[wb.heap.size]? = some (.cells #[.slice A3 L.length c3, .slice A4 F.length c4] 26 (0, 0)) := by rw [hW]; exact blk_new wb _
 have hb1 : Below wb.heap.size wb W2 := by rw [hW]; repeat (first | exact Below.refl _ _ | apply below_alloc | refine below_set ?_ (by simp))
 clear hW
 generalize hP : wb.heap.size = P at BP_ ⊢
 (try replace HS := Aside0.mk (HS.out.below hb1))
 (try replace HV := Aside0.mk (HV.out.below hb1))
 (try replace HP := Aside0.mk (HP.out.below hb1))
 (try replace HX := Aside0.mk (HX.out.below hb1))
 (try replace HZ := Aside0.mk (HZ.out.below hb1))
 (try replace HW := Aside0.mk (HW.out.below hb1))
 (try replace BS := Aside0.mk (blk_below BS.out hb1))
 (try replace BP := Aside0.mk (blk_below BP.out hb1))
 (try replace BX := Aside0.mk (blk_below BX.out hb1))
 (try replace BZ := Aside0.mk (blk_below BZ.out hb1))
 (try replace BW := Aside0.mk (blk_below BW.out hb1))
 (try replace s0 := pw_cell_below hb1 s0)
 (try replace s1 := pw_cell_below hb1 s1)
 (try replace p0 := pw_cell_below hb1 p0)
 (try replace p1 := pw_cell_below hb1 p1)
 (try replace x0 := pw_cell_below hb1 x0)
 (try replace x1 := pw_cell_below hb1 x1)
 (try replace z0 := pw_cell_below hb1 z0)
 (try replace z1 := pw_cell_below hb1 z1)
 (try replace y0 := pw_cell_below hb1 y0)
 (try replace y1 := pw_cell_below hb1 y1)
 replace HB := Aside0.mk (bthen HB.out hb1)
 have BP := Aside0.mk BP_
 clear BP_ hP hb1
 have p0 := blk_cell BP.out 0
 have p1 := blk_cell BP.out 1
 go_upto_region 6 with (go_at_call 17; ((with_reducible refine (HCI.out W2 HS.out HV.out).mono ?_); rintro e wc ⟨ua, va, rfl, hr, hb⟩; obtain ⟨A5, c5, A6, c6, rfl, rfl⟩ := SpS.form hr.s; have HX := Aside0.mk hr.s; (try replace HS := Aside0.mk (HS.out.below hb)); (try replace HV := Aside0.mk (HV.out.below hb)); (try replace HP := Aside0.mk (HP.out.below hb)); (try replace HX := Aside0.mk (HX.out.below hb)); (try replace HZ := Aside0.mk (HZ.out.below hb)); (try replace HW := Aside0.mk (HW.out.below hb)); (try replace BS := Aside0.mk (blk_below BS.out hb)); (try replace BP := Aside0.mk (blk_below BP.out hb)); (try replace BX := Aside0.mk (blk_below BX.out hb)); (try replace BZ := Aside0.mk (blk_below BZ.out hb)); (try replace BW := Aside0.mk (blk_below BW.out hb)); (try replace s0 := pw_cell_below hb s0); (try replace s1 := pw_cell_below hb s1); (try replace p0 := pw_cell_below hb p0); (try replace p1 := pw_cell_below hb p1); (try replace x0 := pw_cell_below hb x0); (try replace x1 := pw_cell_below hb x1); (try replace z0 := pw_cell_below hb z0); (try replace z1 := pw_cell_below hb z1); (try replace y0 := pw_cell_below hb y0); (try replace y1 := pw_cell_below hb y1); replace HB := Aside0.mk (bthen HB.out hb); clear hr hb))
 refine name_world fun W3 hW => ?_
 have BX_ : W3.heap[wc.heap.size]? = some (.cells #[.slice A5 L.length c5, .slice A6 F.length c6] 26 (0, 0)) := by rw [hW]; exact blk_new wc _
 have hb1 : Below wc.heap.size wc W3 := by rw [hW]; repeat (first | exact Below.refl _ _ | apply below_alloc | refine below_set ?_ (by simp))
 clear hW
 generalize hX : wc.heap.size = X at BX_ ⊢
 (try replace HS := Aside0.mk (HS.out.below hb1))
 (try replace HV := Aside0.mk (HV.out.below hb1))
 (try replace HP := Aside0.mk (HP.out.below hb1))
 (try replace HX := Aside0.mk (HX.out.below hb1))
 (try replace HZ := Aside0.mk (HZ.out.below hb1))
 (try replace HW := Aside0.mk (HW.out.below hb1))
 (try replace BS := Aside0.mk (blk_below BS.out hb1))
 (try replace BP := Aside0.mk (blk_below BP.out hb1))
 (try replace BX := Aside0.mk (blk_below BX.out hb1))
 (try replace BZ := Aside0.mk (blk_below BZ.out hb1))
 (try replace BW := Aside0.mk (blk_below BW.out hb1))
 (try replace s0 := pw_cell_below hb1 s0)
 (try replace s1 := pw_cell_below hb1 s1)
 (try replace p0 := pw_cell_below hb1 p0)
 (try replace p1 := pw_cell_below hb1 p1)
 (try replace x0 := pw_cell_below hb1 x0)
 (try replace x1 := pw_cell_below hb1 x1)
 (try replace z0 := pw_cell_below hb1 z0)
 (try replace z1 := pw_cell_below hb1 z1)
 (try replace y0 := pw_cell_below hb1 y0)
 (try replace y1 := pw_cell_below hb1 y1)
 replace HB := Aside0.mk (bthen HB.out hb1)
 have BX := Aside0.mk BX_
 clear BX_ hX hb1
 have x0 := blk_cell BX.out 0
 have x1 := blk_cell BX.out 1
 clear HCS HCI
 cases B
 ·go_wp2_with (go_at_call 20; ((with_reducible refine (laws_lwSpine (.slice A5 L.length c5) (.slice A6 F.length c6) (.slice A3 L.length c3) (.slice A4 F.length c4) L F _ HX.out HP.out).mono ?_); rintro e wd ⟨rfl, hb⟩; (try replace HS := Aside0.mk (HS.out.below hb)); (try replace HV := Aside0.mk (HV.out.below hb)); (try replace HP := Aside0.mk (HP.out.below hb)); (try replace HX := Aside0.mk (HX.out.below hb)); (try replace HZ := Aside0.mk (HZ.out.below hb)); (try replace HW := Aside0.mk (HW.out.below hb)); (try replace BS := Aside0.mk (blk_below BS.out hb)); (try replace BP := Aside0.mk (blk_below BP.out hb)); (try replace BX := Aside0.mk (blk_below BX.out hb)); (try replace BZ := Aside0.mk (blk_below BZ.out hb)); (try replace BW := Aside0.mk (blk_below BW.out hb)); (try replace s0 := pw_cell_below hb s0); (try replace s1 := pw_cell_below hb s1); (try replace p0 := pw_cell_below hb p0); (try replace p1 := pw_cell_below hb p1); (try replace x0 := pw_cell_below hb x0); (try replace x1 := pw_cell_below hb x1); (try replace z0 := pw_cell_below hb z0); (try replace z1 := pw_cell_below hb z1); (try replace y0 := pw_cell_below hb y0); (try replace y1 := pw_cell_below hb y1); replace HB := Aside0.mk (bthen HB.out hb); clear hb))
  go_ret
  exact RetV.mk rfl HB.out
 ·go_upto_region 8 with (go_at_call 20; ((with_reducible refine (laws_lwSpine (.slice A5 L.length c5) (.slice A6 F.length c6) (.slice A3 L.length c3) (.slice A4 F.length c4) L F _ HX.out HP.out).mono ?_); rintro e wd ⟨rfl, hb⟩; (try replace HS := Aside0.mk (HS.out.below hb)); (try replace HV := Aside0.mk (HV.out.below hb)); (try replace HP := Aside0.mk (HP.out.below hb)); (try replace HX := Aside0.mk (HX.out.below hb)); (try replace HZ := Aside0.mk (HZ.out.below hb)); (try replace HW := Aside0.mk (HW.out.below hb)); (try replace BS := Aside0.mk (blk_below BS.out hb)); (try replace BP := Aside0.mk (blk_below BP.out hb)); (try replace BX := Aside0.mk (blk_below BX.out hb)); (try replace BZ := Aside0.mk (blk_below BZ.out hb)); (try replace BW := Aside0.mk (blk_below BW.out hb)); (try replace s0 := pw_cell_below hb s0); (try replace s1 := pw_cell_below hb s1); (try replace p0 := pw_cell_below hb p0); (try replace p1 := pw_cell_below hb p1); (try replace x0 := pw_cell_below hb x0); (try replace x1 := pw_cell_below hb x1); (try replace z0 := pw_cell_below hb z0); (try replace z1 := pw_cell_below hb z1); (try replace y0 := pw_cell_below hb y0); (try replace y1 := pw_cell_below hb y1); replace HB := Aside0.mk (bthen HB.out hb); clear hb))
  obtain ⟨eL, eF, eB⟩ := HLE.out
  obtain ⟨_, _, _, _, e1, e2⟩ := since_yes eB.symm
  have hag := since_again eB.symm
  rw [e1] at eL
  rw [e2] at eF
  subst eL
  subst eF
  have HC2 : Aside0 (∀ W, SpS W (.slice A5 L.length c5) (.slice A6 F.length c6) L F → Sl kTm W vg F → Calls Try.prog 17 #[.agg #[.slice A5 L.length c5, .slice A6 F.length c6], vg] W (SpQ W L F true)) := ⟨fun W hW hg => by
   have := impl_SpineSince (.slice A5 L.length c5) (.slice A6 F.length c6) vg L F F W hW hg HXB.out HGL.out
   obtain ⟨_, _, _, _, q1, q2⟩ := since_yes hag
   rwa [q1, q2, hag] at this⟩
  clear e1 e2 eB HLE hag
  go_upto_region 9 with (go_at_call 17; ((with_reducible refine (HC2.out _ HX.out HV.out).mono ?_); rintro e we ⟨ua, va, rfl, hr, hb⟩; obtain ⟨A7, c7, A8, c8, rfl, rfl⟩ := SpS.form hr.s; have HZ := Aside0.mk hr.s; (try replace HS := Aside0.mk (HS.out.below hb)); (try replace HV := Aside0.mk (HV.out.below hb)); (try replace HP := Aside0.mk (HP.out.below hb)); (try replace HX := Aside0.mk (HX.out.below hb)); (try replace HZ := Aside0.mk (HZ.out.below hb)); (try replace HW := Aside0.mk (HW.out.below hb)); (try replace BS := Aside0.mk (blk_below BS.out hb)); (try replace BP := Aside0.mk (blk_below BP.out hb)); (try replace BX := Aside0.mk (blk_below BX.out hb)); (try replace BZ := Aside0.mk (blk_below BZ.out hb)); (try replace BW := Aside0.mk (blk_below BW.out hb)); (try replace s0 := pw_cell_below hb s0); (try replace s1 := pw_cell_below hb s1); (try replace p0 := pw_cell_below hb p0); (try replace p1 := pw_cell_below hb p1); (try replace x0 := pw_cell_below hb x0); (try replace x1 := pw_cell_below hb x1); (try replace z0 := pw_cell_below hb z0); (try replace z1 := pw_cell_below hb z1); (try replace y0 := pw_cell_below hb y0); (try replace y1 := pw_cell_below hb y1); replace HB := Aside0.mk (bthen HB.out hb); clear hr hb))
  refine name_world fun W4 hW => ?_
  have BZ_ : W4.heap[we.heap.size]? = some (.cells #[.slice A7 L.length c7, .slice A8 F.length c8] 26 (0, 0)) := by rw [hW]; exact blk_new we _
  have hb1 : Below we.heap.size we W4 := by rw [hW]; repeat (first | exact Below.refl _ _ | apply below_alloc | refine below_set ?_ (by simp))
  clear hW
  generalize hZ : we.heap.size = Z at BZ_ ⊢
  (try replace HS := Aside0.mk (HS.out.below hb1))
  (try replace HV := Aside0.mk (HV.out.below hb1))
  (try replace HP := Aside0.mk (HP.out.below hb1))
  (try replace HX := Aside0.mk (HX.out.below hb1))
  (try replace HZ := Aside0.mk (HZ.out.below hb1))
  (try replace HW := Aside0.mk (HW.out.below hb1))
  (try replace BS := Aside0.mk (blk_below BS.out hb1))
  (try replace BP := Aside0.mk (blk_below BP.out hb1))
  (try replace BX := Aside0.mk (blk_below BX.out hb1))
  (try replace BZ := Aside0.mk (blk_below BZ.out hb1))
  (try replace BW := Aside0.mk (blk_below BW.out hb1))
  (try replace s0 := pw_cell_below hb1 s0)
  (try replace s1 := pw_cell_below hb1 s1)
  (try replace p0 := pw_cell_below hb1 p0)
  (try replace p1 := pw_cell_below hb1 p1)
  (try replace x0 := pw_cell_below hb1 x0)
  (try replace x1 := pw_cell_below hb1 x1)
  (try replace z0 := pw_cell_below hb1 z0)
  (try replace z1 := pw_cell_below hb1 z1)
  (try replace y0 := pw_cell_below hb1 y0)
  (try replace y1 := pw_cell_below hb1 y1)
  replace HB := Aside0.mk (bthen HB.out hb1)
  have BZ := Aside0.mk BZ_
  clear BZ_ hZ hb1
  have z0 := blk_cell BZ.out 0
  have z1 := blk_cell BZ.out 1
  go_wp2_with (go_at_call 20; ((with_reducible refine (laws_lwSpine (.slice A7 L.length c7) (.slice A8 F.length c8) (.slice A5 L.length c5) (.slice A6 F.length c6) L F _ HZ.out HX.out).mono ?_); rintro e wf ⟨rfl, hb⟩; (try replace HS := Aside0.mk (HS.out.below hb)); (try replace HV := Aside0.mk (HV.out.below hb)); (try replace HP := Aside0.mk (HP.out.below hb)); (try replace HX := Aside0.mk (HX.out.below hb)); (try replace HZ := Aside0.mk (HZ.out.below hb)); (try replace HW := Aside0.mk (HW.out.below hb)); (try replace BS := Aside0.mk (blk_below BS.out hb)); (try replace BP := Aside0.mk (blk_below BP.out hb)); (try replace BX := Aside0.mk (blk_below BX.out hb)); (try replace BZ := Aside0.mk (blk_below BZ.out hb)); (try replace BW := Aside0.mk (blk_below BW.out hb)); (try replace s0 := pw_cell_below hb s0); (try replace s1 := pw_cell_below hb s1); (try replace p0 := pw_cell_below hb p0); (try replace p1 := pw_cell_below hb p1); (try replace x0 := pw_cell_below hb x0); (try replace x1 := pw_cell_below hb x1); (try replace z0 := pw_cell_below hb z0); (try replace z1 := pw_cell_below hb z1); (try replace y0 := pw_cell_below hb y0); (try replace y1 := pw_cell_below hb y1); replace HB := Aside0.mk (bthen HB.out hb); clear hb))
  go_ret
  exact RetV.mk rfl HB.out
end Go.Proofs.Ytkdendlgaaimbaa.X
