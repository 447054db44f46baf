/- Conditions: none. -/
import Derived.Test.YtkdendlgaaimbaaYPPnM
import Derived.Test.YtkdendlgaaimbaaYPOpPn
import Derived.Test.YtkdendlgaaimbaaYPItSS
import Derived.Test.YtkdendlgaaimbaaYPPsP
namespace Go.Proofs.Ytkdendlgaaimbaa.X
open Go.RowKit Go.Proofs.YtkdendlgaaimbaaW.PrintWords
set_option linter.unusedVariables false
set_option linter.unusedSimpArgs false
theorem planSet_few (x : Pn) (ins : List (List It)) : ((planSet x ins).getD []).length ≤ 400 := by
 cases h : planSet x ins with
 | none => simp
 | some l =>
  unfold planSet at h
  split at h
  ·exact (mass_setOk (setP_ok h)).2
  ·cases h
theorem szB_yes {m n : Nat} {left : Int} (h : (m : Int) + (n : Int) ≤ left) : szB m n left = left - m - n := if_pos h
theorem szB_no {m n : Nat} {left : Int} (h : ¬ (m : Int) + (n : Int) ≤ left) : szB m n left = -1 := if_neg h
theorem manyI_mem {ls : List (List It)} {x : List It} (h : x ∈ ls) : x.length ≤ manyI ls := by
 obtain ⟨k, hk, rfl⟩ := List.getElem_of_mem h
 have := manyI_take ls k hk
 omega
theorem Sl.of_S {α : Type} {d : Kd α} {e base : Nat} {w : World} {ok : Nat → Prop} {v : Value} {xs : List α} (h : Kd.S d e w base ok v xs) : Sl d w v xs := Kd.S_reads h
set_option maxRecDepth 100000 in
set_option maxHeartbeats 4000000 in
theorem laws_FnExactPlanSet (x : Pn) (v v2 : Value) (ins : List (List It)) (w : World) (h : Sl kPn w v x.f2) (h2 : Sl (Kd.slice 163 kIt) w v2 ins) : Calls Try.prog 13 #[.agg #[.int .i64 x.f0, .int .i64 x.f1, v], v2] w (RetV w (.bool true)) := by
 have HA := Aside0.mk h
 have HI := Aside0.mk h2
 obtain ⟨A, c, rfl, hc, hr⟩ := h
 clear hr
 obtain ⟨A2, c2, rfl, hc2, hr2⟩ := h2
 clear hr2
 have HX := Aside0.mk (Eq.refl (cntL x.f2))
 generalize hnn : cntL x.f2 = n at HX
 have HN := Aside0.mk hnn
 clear hnn HX
 have HB := Aside0.mk (Below.refl w.heap.size w)
 go_enter Try.func13, Try.ntmps13
 go_upto_region 1 with fail
 refine name_world fun W0 hW0 => ?_
 have hb0 : Below w.heap.size w W0 := hW0 ▸ below_alloc (Below.refl _ _) _
 have B0 : W0.cell? ⟨w.heap.size, 0, none⟩ = some (.int .i64 x.f0) := by rw [hW0]; simp
 have B1 : W0.cell? ⟨w.heap.size, 1, none⟩ = some (.int .i64 x.f1) := by rw [hW0]; simp
 have B2 : W0.cell? ⟨w.heap.size, 2, none⟩ = some (.slice A x.f2.length c) := by rw [hW0]; simp
 clear hW0
 replace HB := Aside0.mk hb0
 replace HA := Aside0.mk (HA.out.below hb0)
 replace HI := Aside0.mk (HI.out.below hb0)
 clear hb0
 have C1 := fun W h => laws_szPlan x (.slice A x.f2.length c) 1048576 W h (by omega) (by omega)
 by_cases hn : (n : Int) ≤ 1048576
 case neg =>
  have C2 := fun W h => by have := C1 W h; rw [HN.out, szv_no (by omega)] at this; exact this
  have HC := Aside0.mk C2
  clear C1 C2 hn
  go_wp2_with (first
   | (go_at_call 56; ((with_reducible refine (HC.out _ HA.out).mono ?_); rintro e w' ⟨rfl, hb⟩; (try replace HA := Aside0.mk (HA.out.below hb)); (try replace HI := Aside0.mk (HI.out.below hb)); (try replace B0 := pw_cell_below hb B0); (try replace B1 := pw_cell_below hb B1); (try replace B2 := pw_cell_below hb B2); replace HB := Aside0.mk (bthen HB.out hb); clear hb)))
  go_ret
  exact RetV.mk rfl HB.out
 have C2 := fun W h => by have := C1 W h; rw [HN.out, szv_yes hn] at this; exact this
 have HC := Aside0.mk C2
 have hpos : (0 : Int) ≤ 1048576 - (n : Int) := by omega
 have HCN := Aside0.mk (show cntL x.f2 ≤ 1048576 by rw [HN.out]; omega)
 clear C1 C2
 have D1 := fun W h => laws_szItemSS (.slice A2 ins.length c2) ins (1048576 - (n : Int)) W h (by omega) (by omega)
 by_cases hm : (ins.length : Int) + (manyI ins : Int) ≤ 1048576 - (n : Int)
 case neg =>
  have D2 := fun W h => by have := D1 W h; rw [szB_no hm] at this; exact this
  have HD := Aside0.mk D2
  clear D1 D2 hn hm
  go_wp2_with (first
   | (go_at_call 56; ((with_reducible refine (HC.out _ HA.out).mono ?_); rintro e w' ⟨rfl, hb⟩; (try replace HA := Aside0.mk (HA.out.below hb)); (try replace HI := Aside0.mk (HI.out.below hb)); (try replace B0 := pw_cell_below hb B0); (try replace B1 := pw_cell_below hb B1); (try replace B2 := pw_cell_below hb B2); replace HB := Aside0.mk (bthen HB.out hb); clear hb))
   | (go_at_call 57; ((with_reducible refine (HD.out _ HI.out).mono ?_); rintro e w' ⟨rfl, hb⟩; (try replace HA := Aside0.mk (HA.out.below hb)); (try replace HI := Aside0.mk (HI.out.below hb)); (try replace B0 := pw_cell_below hb B0); (try replace B1 := pw_cell_below hb B1); (try replace B2 := pw_cell_below hb B2); replace HB := Aside0.mk (bthen HB.out hb); clear hb)))
  go_ret
  exact RetV.mk rfl HB.out
 have D2 := fun W h => by have := D1 W h; rw [szB_yes hm] at this; exact this
 have HD := Aside0.mk D2
 have hpos2 : (0 : Int) ≤ 1048576 - (n : Int) - (ins.length : Int) - (manyI ins : Int) := by omega
 have HIL := Aside0.mk (show ins.length < 7036874416000 by omega)
 have HIM := Aside0.mk (show ∀ y ∈ ins, y.length ≤ 1048576 from fun y hy => by have := manyI_mem hy; omega)
 have HIM2 := Aside0.mk (show ∀ y ∈ ins, y.length < 7036874416000 from fun y hy => by have := manyI_mem hy; omega)
 have HMM := Aside0.mk (show manyI ins ≤ 1048576 by omega)
 clear D1 D2 hn hm
 have PO := fun v v2 W h h2 => impl_PlanSet x v v2 ins W h h2
 have PS := fun v v2 W h h2 => spec_PlanSet x v v2 ins W h h2
 have hts := planSet_few x ins
 generalize (planSet x ins).getD [] = ts at PO PS hts
 generalize (planSet x ins).isSome = ok at PO PS
 have HTS := Aside0.mk hts
 have HPO := Aside0.mk PO
 have HPS := Aside0.mk PS
 clear PO PS hts
 have qok : (ok != ok) = false := by cases ok <;> rfl
 go_upto_region 9 with (first
  | (go_at_call 56; ((with_reducible refine (HC.out _ HA.out).mono ?_); rintro e w' ⟨rfl, hb⟩; (try replace HA := Aside0.mk (HA.out.below hb)); (try replace HI := Aside0.mk (HI.out.below hb)); (try replace B0 := pw_cell_below hb B0); (try replace B1 := pw_cell_below hb B1); (try replace B2 := pw_cell_below hb B2); (try replace H1 := Aside0.mk (H1.out.below hb)); replace HB := Aside0.mk (bthen HB.out hb); clear hb))
  | (go_at_call 57; ((with_reducible refine (HD.out _ HI.out).mono ?_); rintro e w' ⟨rfl, hb⟩; (try replace HA := Aside0.mk (HA.out.below hb)); (try replace HI := Aside0.mk (HI.out.below hb)); (try replace B0 := pw_cell_below hb B0); (try replace B1 := pw_cell_below hb B1); (try replace B2 := pw_cell_below hb B2); (try replace H1 := Aside0.mk (H1.out.below hb)); replace HB := Aside0.mk (bthen HB.out hb); clear hb))
  | (go_at_call 58; ((with_reducible refine (laws_toPlan x _ _ HA.out HCN.out).mono ?_); rintro e w' ⟨va, rfl, hr, hb⟩; (try replace HA := Aside0.mk (HA.out.below hb)); (try replace HI := Aside0.mk (HI.out.below hb)); (try replace B0 := pw_cell_below hb B0); (try replace B1 := pw_cell_below hb B1); (try replace B2 := pw_cell_below hb B2); (try replace H1 := Aside0.mk (H1.out.below hb)); replace HB := Aside0.mk (bthen HB.out hb); have H1 := Aside0.mk (Sl.of_R hr); clear hr hb))
  | (go_at_call 59; ((with_reducible refine (laws_toItemSS _ ins _ HI.out HIL.out HIM2.out).mono ?_); rintro e w' ⟨vb, rfl, hr, hb⟩; (try replace HA := Aside0.mk (HA.out.below hb)); (try replace HI := Aside0.mk (HI.out.below hb)); (try replace B0 := pw_cell_below hb B0); (try replace B1 := pw_cell_below hb B1); (try replace B2 := pw_cell_below hb B2); (try replace H1 := Aside0.mk (H1.out.below hb)); replace HB := Aside0.mk (bthen HB.out hb); have H2 := Aside0.mk (Sl.of_S hr); clear hr hb))
  | (go_at_call 41; ((with_reducible refine (HPS.out _ _ _ H1.out H2.out).mono ?_); rintro e w' ⟨vw, rfl, hr, hb⟩; (try replace HA := Aside0.mk (HA.out.below hb)); (try replace HI := Aside0.mk (HI.out.below hb)); (try replace B0 := pw_cell_below hb B0); (try replace B1 := pw_cell_below hb B1); (try replace B2 := pw_cell_below hb B2); (try replace H1 := Aside0.mk (H1.out.below hb)); replace HB := Aside0.mk (bthen HB.out hb); have HW := Aside0.mk (Sl.of_R hr); clear hr hb)))
 clear H1 H2
 rename World => Wx
 have HA0 := HA
 have HI0 := HI
 have HW0 := HW
 have HBW0 := HB
 have B00 := B0
 have B10 := B1
 have B20 := B2
 have HBX := Aside0.mk (Below.refl Wx.heap.size Wx)
 go_upto_region 10 with (go_at_call 58; ((with_reducible refine (laws_toPlan x _ _ HA.out HCN.out).mono ?_); rintro e w2 ⟨vx, rfl, hr, hb⟩; have HX := Aside0.mk (Sl.of_R hr); have HSH := Aside0.mk (shp_of_R _ x.f2 (Nat.lt_succ_self _) _ (fun q => Wx.heap.size ≤ q ∧ q < w2.heap.size) (Kd.R_mono (Kd.R_bound hr) (fun q hq => ⟨hq.2.1, hq.2.2.1⟩))); obtain ⟨A5, c5, rfl, _, _⟩ := Kd.R_reads hr; replace B0 := pw_cell_below hb B0; replace B1 := pw_cell_below hb B1; replace B2 := pw_cell_below hb B2; replace HA := Aside0.mk (HA.out.below hb); replace HI := Aside0.mk (HI.out.below hb); replace HW := Aside0.mk (HW.out.below hb); replace HB := Aside0.mk (bthen HB.out hb); replace HBX := Aside0.mk (bthen HBX.out hb); clear hr hb))
 refine name_world fun W1 hW1 => ?_
 have hb1 : Below w2.heap.size w2 W1 := hW1 ▸ below_alloc (Below.refl _ _) _
 have X0 : W1.cell? ⟨w2.heap.size, 0, none⟩ = some (.int .i64 x.f0) := by rw [hW1]; simp
 have X1 : W1.cell? ⟨w2.heap.size, 1, none⟩ = some (.int .i64 x.f1) := by rw [hW1]; simp
 have X2 : W1.cell? ⟨w2.heap.size, 2, none⟩ = some (.slice A5 x.f2.length c5) := by rw [hW1]; simp
 have hsz : w2.heap.size < W1.heap.size := by rw [hW1]; simp
 clear hW1
 replace B0 := pw_cell_below hb1 B0
 replace B1 := pw_cell_below hb1 B1
 replace B2 := pw_cell_below hb1 B2
 replace HA := Aside0.mk (HA.out.below hb1)
 replace HI := Aside0.mk (HI.out.below hb1)
 replace HW := Aside0.mk (HW.out.below hb1)
 replace HX := Aside0.mk (HX.out.below hb1)
 replace HSH := Aside0.mk (HSH.out.fwd hb1)
 replace HB := Aside0.mk (bthen HB.out hb1)
 replace HBX := Aside0.mk (bthen HBX.out hb1)
 clear hb1
 obtain ⟨N, hN⟩ : ∃ N, N = w2.heap.size := ⟨_, rfl⟩
 rw [← hN] at X0 X1 X2 HSH hsz ⊢
 clear hN
 have HSZ := Aside0.mk hsz
 clear hsz
 go_upto_region 11 with (go_at_call 59; ((with_reducible refine (laws_toItemSS _ ins _ HI.out HIL.out HIM2.out).mono ?_); rintro e w3 ⟨vy, rfl, hr, hb⟩; have HS1 := Aside0.mk (Kd.S_lower (Kd.S_mono (Kd.S_bound hr) (ok' := fun q => N < q ∧ q < w3.heap.size) (fun q hq => ⟨Nat.lt_of_lt_of_le HSZ.out hq.2.1, hq.2.2.1⟩)) HBX.out.size); have HNM := Aside0.mk (Nat.lt_of_lt_of_le HSZ.out hb.size); replace B0 := pw_cell_below hb B0; replace B1 := pw_cell_below hb B1; replace B2 := pw_cell_below hb B2; replace X0 := pw_cell_below hb X0; replace X1 := pw_cell_below hb X1; replace X2 := pw_cell_below hb X2; replace HA := Aside0.mk (HA.out.below hb); replace HI := Aside0.mk (HI.out.below hb); replace HW := Aside0.mk (HW.out.below hb); replace HX := Aside0.mk (HX.out.below hb); replace HSH := Aside0.mk (HSH.out.fwd hb); replace HB := Aside0.mk (bthen HB.out hb); replace HBX := Aside0.mk (bthen HBX.out hb); clear hr hb))
 obtain ⟨M, hM⟩ : ∃ M, M = w3.heap.size := ⟨_, rfl⟩
 rw [← hM] at HS1 HNM
 have HM := Aside0.mk hM
 clear hM
 go_upto_region 12 with (go_at_call 42; ((with_reducible refine (HPO.out _ _ _ HX.out (Sl.of_S HS1.out)).mono ?_); rintro e w4 ⟨vg, rfl, hr, hb⟩; have HGO := Aside0.mk (Kd.R_lower (Kd.R_mono (Kd.R_bound hr) (ok' := fun q => M ≤ q) (fun q hq => by rw [HM.out]; exact hq.2.1)) HBX.out.size); replace B0 := pw_cell_below hb B0; replace B1 := pw_cell_below hb B1; replace B2 := pw_cell_below hb B2; replace X0 := pw_cell_below hb X0; replace X1 := pw_cell_below hb X1; replace X2 := pw_cell_below hb X2; replace HA := Aside0.mk (HA.out.below hb); replace HI := Aside0.mk (HI.out.below hb); replace HW := Aside0.mk (HW.out.below hb); replace HX := Aside0.mk (HX.out.below hb); replace HSH := Aside0.mk (HSH.out.fwd hb); replace HS1 := Aside0.mk (Kd.S_below HS1.out hb); replace HB := Aside0.mk (bthen HB.out hb); replace HBX := Aside0.mk (bthen HBX.out hb); clear hr hb))
 go_upto_region 14 with (first
  | (go_at_call 60; ((with_reducible refine (laws_eqItemS vg vw ts _ (Sl.of_R HGO.out) HW.out (Nat.le_trans HTS.out (by decide))).mono ?_); rintro e w' ⟨rfl, hb⟩; (try replace HA := Aside0.mk (HA.out.below hb)); (try replace HI := Aside0.mk (HI.out.below hb)); (try replace HW := Aside0.mk (HW.out.below hb)); (try replace HX := Aside0.mk (HX.out.below hb)); (try replace B0 := pw_cell_below hb B0); (try replace B1 := pw_cell_below hb B1); (try replace B2 := pw_cell_below hb B2); (try replace X0 := pw_cell_below hb X0); (try replace X1 := pw_cell_below hb X1); (try replace X2 := pw_cell_below hb X2); (try replace HGO := Aside0.mk (Kd.R_below HGO.out hb)); (try replace HBX := Aside0.mk (bthen HBX.out hb)); (try replace HSH := Aside0.mk (HSH.out.fwd hb)); (try replace HS1 := Aside0.mk (Kd.S_below HS1.out hb)); (try replace H1 := Aside0.mk (H1.out.below hb)); (try replace H2 := Aside0.mk (H2.out.below hb)); replace HB := Aside0.mk (bthen HB.out hb); clear hb)))
 have d0 := pw_cell_below (below_drew (Below.refl _ _)) B0
 have d1 := pw_cell_below (below_drew (Below.refl _ _)) B1
 have d2 := pw_cell_below (below_drew (Below.refl _ _)) B2
 have d3 := pw_cell_below (below_drew (Below.refl _ _)) X0
 have d4 := pw_cell_below (below_drew (Below.refl _ _)) X1
 have d5 := pw_cell_below (below_drew (Below.refl _ _)) X2
 replace HA := Aside0.mk (HA.out.below (below_drew (Below.refl _ _)))
 replace HI := Aside0.mk (HI.out.below (below_drew (Below.refl _ _)))
 replace HW := Aside0.mk (HW.out.below (below_drew (Below.refl _ _)))
 replace HX := Aside0.mk (HX.out.below (below_drew (Below.refl _ _)))
 replace HSH := Aside0.mk (HSH.out.fwd (below_drew (Below.refl _ _)))
 replace HS1 := Aside0.mk (Kd.S_below HS1.out (below_drew (Below.refl _ _)))
 replace HGO := Aside0.mk (Kd.R_below HGO.out (below_drew (Below.refl _ _)))
 replace HBX := Aside0.mk (below_drew HBX.out)
 replace HB := Aside0.mk (below_drew HB.out)
 go_region_held3 (fun w' => w'.cell? ⟨w.heap.size, 0, none⟩ = some (.int .i64 x.f0) ∧ w'.cell? ⟨w.heap.size, 1, none⟩ = some (.int .i64 x.f1) ∧ w'.cell? ⟨w.heap.size, 2, none⟩ = some (.slice A x.f2.length c) ∧ w'.cell? ⟨N, 0, none⟩ = some (.int .i64 x.f0) ∧ w'.cell? ⟨N, 1, none⟩ = some (.int .i64 x.f1) ∧ w'.cell? ⟨N, 2, none⟩ = some (.slice A5 x.f2.length c5)) (first | exact ⟨B0, B1, B2, X0, X1, X2⟩ | exact ⟨d0, d1, d2, d3, d4, d5⟩)
  (first
  | (go_at_call 58; ((with_reducible refine (laws_toPlan x _ _ HA.out HCN.out).mono ?_); rintro e w' ⟨va, rfl, hr, hb⟩; (try replace HA := Aside0.mk (HA.out.below hb)); (try replace HI := Aside0.mk (HI.out.below hb)); (try replace HW := Aside0.mk (HW.out.below hb)); (try replace HX := Aside0.mk (HX.out.below hb)); (try replace HGO := Aside0.mk (Kd.R_below HGO.out hb)); (try replace HBX := Aside0.mk (bthen HBX.out hb)); (try replace HSH := Aside0.mk (HSH.out.fwd hb)); (try replace HS1 := Aside0.mk (Kd.S_below HS1.out hb)); (try replace H1 := Aside0.mk (H1.out.below hb)); (try replace H2 := Aside0.mk (H2.out.below hb)); replace d0 := pw_cell_below hb d0; replace d1 := pw_cell_below hb d1; replace d2 := pw_cell_below hb d2; replace d3 := pw_cell_below hb d3; replace d4 := pw_cell_below hb d4; replace d5 := pw_cell_below hb d5; replace HB := Aside0.mk (bthen HB.out hb); have H1 := Aside0.mk (Sl.of_R hr); clear hr hb))
  | (go_at_call 61; ((with_reducible refine (laws_eqPlan x _ _ _ HX.out H1.out).mono ?_); rintro e w' ⟨rfl, hb⟩; (try replace HA := Aside0.mk (HA.out.below hb)); (try replace HI := Aside0.mk (HI.out.below hb)); (try replace HW := Aside0.mk (HW.out.below hb)); (try replace HX := Aside0.mk (HX.out.below hb)); (try replace HGO := Aside0.mk (Kd.R_below HGO.out hb)); (try replace HBX := Aside0.mk (bthen HBX.out hb)); (try replace HSH := Aside0.mk (HSH.out.fwd hb)); (try replace HS1 := Aside0.mk (Kd.S_below HS1.out hb)); (try replace H1 := Aside0.mk (H1.out.below hb)); (try replace H2 := Aside0.mk (H2.out.below hb)); replace d0 := pw_cell_below hb d0; replace d1 := pw_cell_below hb d1; replace d2 := pw_cell_below hb d2; replace d3 := pw_cell_below hb d3; replace d4 := pw_cell_below hb d4; replace d5 := pw_cell_below hb d5; replace HB := Aside0.mk (bthen HB.out hb); clear hb)))
 clear B0 B1 B2 X0 X1 X2
 have B0 := d0
 have B1 := d1
 have B2 := d2
 have X0 := d3
 have X1 := d4
 have X2 := d5
 clear d0 d1 d2 d3 d4 d5 H1
 go_upto_region 19 with (first
  | (go_at_call 59; ((with_reducible refine (laws_toItemSS _ ins _ HI.out HIL.out HIM2.out).mono ?_); rintro e w' ⟨vb, rfl, hr, hb⟩; (try replace HA := Aside0.mk (HA.out.below hb)); (try replace HI := Aside0.mk (HI.out.below hb)); (try replace HW := Aside0.mk (HW.out.below hb)); (try replace HX := Aside0.mk (HX.out.below hb)); (try replace B0 := pw_cell_below hb B0); (try replace B1 := pw_cell_below hb B1); (try replace B2 := pw_cell_below hb B2); (try replace X0 := pw_cell_below hb X0); (try replace X1 := pw_cell_below hb X1); (try replace X2 := pw_cell_below hb X2); (try replace HGO := Aside0.mk (Kd.R_below HGO.out hb)); (try replace HBX := Aside0.mk (bthen HBX.out hb)); (try replace HSH := Aside0.mk (HSH.out.fwd hb)); (try replace HS1 := Aside0.mk (Kd.S_below HS1.out hb)); (try replace H1 := Aside0.mk (H1.out.below hb)); (try replace H2 := Aside0.mk (H2.out.below hb)); replace HB := Aside0.mk (bthen HB.out hb); have H2 := Aside0.mk (Sl.of_S hr); clear hr hb))
  | (go_at_call 62; ((with_reducible refine (laws_eqItemSS _ _ ins _ (Sl.of_S HS1.out) H2.out HIM.out).mono ?_); rintro e w' ⟨rfl, hb⟩; (try replace HA := Aside0.mk (HA.out.below hb)); (try replace HI := Aside0.mk (HI.out.below hb)); (try replace HW := Aside0.mk (HW.out.below hb)); (try replace HX := Aside0.mk (HX.out.below hb)); (try replace B0 := pw_cell_below hb B0); (try replace B1 := pw_cell_below hb B1); (try replace B2 := pw_cell_below hb B2); (try replace X0 := pw_cell_below hb X0); (try replace X1 := pw_cell_below hb X1); (try replace X2 := pw_cell_below hb X2); (try replace HGO := Aside0.mk (Kd.R_below HGO.out hb)); (try replace HBX := Aside0.mk (bthen HBX.out hb)); (try replace HSH := Aside0.mk (HSH.out.fwd hb)); (try replace HS1 := Aside0.mk (Kd.S_below HS1.out hb)); (try replace H1 := Aside0.mk (H1.out.below hb)); (try replace H2 := Aside0.mk (H2.out.below hb)); replace HB := Aside0.mk (bthen HB.out hb); clear hb)))
 clear H2 HX HA HI HW B0 B1 B2 HB
 have hk0 : ¬ (1 + 2 * (cntL x.f2 : Int) + 3 * (manyI ins : Int) < 0) := by omega
 have e0 : (0 : Int) ≤ 1 + 2 * (cntL x.f2 : Int) := by omega
 have e1 : 1 + 2 * (cntL x.f2 : Int) < 4611686018427387904 := by have := HCN.out; omega
 have e2 : 1 + 2 * (cntL x.f2 : Int) + 3 * (manyI ins : Int) < 4611686018427387904 := by have := HCN.out; have := HMM.out; omega
 have E0 := Aside0.mk e0
 have E1 := Aside0.mk e1
 have E2 := Aside0.mk e2
 clear e0 e1 e2
 go_upto_region 20 with (go_at_call 63; ((with_reducible refine (laws_markPlan Wx (fun q => Wx.heap.size ≤ q ∧ q < N) (fun q hq => hq.1) x (.slice A5 x.f2.length c5) 1 _ HBX.out HSH.out (by omega) E1.out _ _).mono ?_); rintro e w5 ⟨rfl, hb, hk⟩; replace HGO := Aside0.mk (Kd.R_kept HGO.out hk (fun q hq hs => Nat.lt_irrefl _ (Nat.lt_of_lt_of_le (Nat.lt_trans hs.2 HNM.out) hq))); replace HS1 := Aside0.mk (Kd.S_kept HS1.out hk (fun q hq hs => Nat.lt_irrefl _ (Nat.lt_trans hs.2 hq.1))); replace HBX := Aside0.mk hb; clear hb hk HSH X0 X1 X2))
 go_upto_region 21 with (go_at_call 64; ((with_reducible refine (laws_markItemSS (fun q => N < q ∧ q < M) vy ins (1 + 2 * (cntL x.f2 : Int)) Wx _ HBX.out HS1.out E0.out E2.out).mono ?_); rintro e w6 ⟨rfl, hs, hb, hk⟩; replace HGO := Aside0.mk (Kd.R_kept HGO.out hk (fun q hq hs => Nat.lt_irrefl _ (Nat.lt_of_lt_of_le hs.2 hq))); have HA := Aside0.mk (HA0.out.below hb); have HI := Aside0.mk (HI0.out.below hb); have HW := Aside0.mk (HW0.out.below hb); have B0 := pw_cell_below hb B00; have B1 := pw_cell_below hb B10; have B2 := pw_cell_below hb B20; replace HBX := Aside0.mk hb; have HB := Aside0.mk (bthen HBW0.out hb); clear hs hb hk HS1))
 go_upto_region 24 with (first
  | (go_at_call 60; ((with_reducible refine (laws_eqItemS vg vw ts _ (Sl.of_R HGO.out) HW.out (Nat.le_trans HTS.out (by decide))).mono ?_); rintro e w' ⟨rfl, hb⟩; (try replace HA := Aside0.mk (HA.out.below hb)); (try replace HI := Aside0.mk (HI.out.below hb)); (try replace HW := Aside0.mk (HW.out.below hb)); (try replace B0 := pw_cell_below hb B0); (try replace B1 := pw_cell_below hb B1); (try replace B2 := pw_cell_below hb B2); (try replace HGO := Aside0.mk (Kd.R_below HGO.out hb)); (try replace HBX := Aside0.mk (bthen HBX.out hb)); (try replace H1 := Aside0.mk (H1.out.below hb)); (try replace H2 := Aside0.mk (H2.out.below hb)); (try replace H6 := Aside0.mk (H6.out.below hb)); replace HB := Aside0.mk (bthen HB.out hb); clear hb)))
 clear HB HA HI HW B0 B1 B2
 have hts := HTS.out
 go_upto_region 25 with (go_at_call 65; ((with_reducible refine (laws_markItemS (fun q => M ≤ q) vg ts 1 Wx _ HBX.out HGO.out (by omega) (by omega)).mono ?_); rintro e w7 ⟨rfl, hr, hb, hk⟩; replace HGO := Aside0.mk hr; have HA := Aside0.mk (HA0.out.below hb); have HI := Aside0.mk (HI0.out.below hb); have HW := Aside0.mk (HW0.out.below hb); have B0 := pw_cell_below hb B00; have B1 := pw_cell_below hb B10; have B2 := pw_cell_below hb B20; replace HBX := Aside0.mk hb; have HB := Aside0.mk (bthen HBW0.out hb); clear hr hb hk))
 have hm1 : ¬ (1 + 3 * (ts.length : Int) < 0) := by omega
 have HML := Aside0.mk (marksI_len 1 ts.length)
 have HD0 : ∀ W, Sl kIt W vg (marksI 1 ts.length) → Calls Try.prog 66 #[vg, .int .i64 1] W (RetV W (.int .i64 (1 + 3 * (ts.length : Int)))) := fun W h => laws_heldItemS vg ts.length W h (by omega)
 have HH := Aside0.mk HD0
 clear HD0 hts
 generalize marksI 1 ts.length = ms at *
 go_wp2_with (first
  | (go_at_call 66; ((with_reducible refine (HH.out _ (Sl.of_R HGO.out)).mono ?_); rintro e w' ⟨rfl, hb⟩; (try replace HA := Aside0.mk (HA.out.below hb)); (try replace HI := Aside0.mk (HI.out.below hb)); (try replace HW := Aside0.mk (HW.out.below hb)); (try replace B0 := pw_cell_below hb B0); (try replace B1 := pw_cell_below hb B1); (try replace B2 := pw_cell_below hb B2); (try replace HGO := Aside0.mk (Kd.R_below HGO.out hb)); (try replace HBX := Aside0.mk (bthen HBX.out hb)); (try replace H1 := Aside0.mk (H1.out.below hb)); (try replace H2 := Aside0.mk (H2.out.below hb)); (try replace H6 := Aside0.mk (H6.out.below hb)); replace HB := Aside0.mk (bthen HB.out hb); clear hb))
  | (go_at_call 58; ((with_reducible refine (laws_toPlan x _ _ HA.out HCN.out).mono ?_); rintro e w' ⟨va3, rfl, hr, hb⟩; (try replace HA := Aside0.mk (HA.out.below hb)); (try replace HI := Aside0.mk (HI.out.below hb)); (try replace HW := Aside0.mk (HW.out.below hb)); (try replace B0 := pw_cell_below hb B0); (try replace B1 := pw_cell_below hb B1); (try replace B2 := pw_cell_below hb B2); (try replace HGO := Aside0.mk (Kd.R_below HGO.out hb)); (try replace HBX := Aside0.mk (bthen HBX.out hb)); (try replace H1 := Aside0.mk (H1.out.below hb)); (try replace H2 := Aside0.mk (H2.out.below hb)); (try replace H6 := Aside0.mk (H6.out.below hb)); replace HB := Aside0.mk (bthen HB.out hb); have H1 := Aside0.mk (Sl.of_R hr); clear hr hb))
  | (go_at_call 59; ((with_reducible refine (laws_toItemSS _ ins _ HI.out HIL.out HIM2.out).mono ?_); rintro e w' ⟨vb3, rfl, hr, hb⟩; (try replace HA := Aside0.mk (HA.out.below hb)); (try replace HI := Aside0.mk (HI.out.below hb)); (try replace HW := Aside0.mk (HW.out.below hb)); (try replace B0 := pw_cell_below hb B0); (try replace B1 := pw_cell_below hb B1); (try replace B2 := pw_cell_below hb B2); (try replace HGO := Aside0.mk (Kd.R_below HGO.out hb)); (try replace HBX := Aside0.mk (bthen HBX.out hb)); (try replace H1 := Aside0.mk (H1.out.below hb)); (try replace H2 := Aside0.mk (H2.out.below hb)); (try replace H6 := Aside0.mk (H6.out.below hb)); replace HB := Aside0.mk (bthen HB.out hb); have H2 := Aside0.mk (Sl.of_S hr); clear hr hb))
  | (go_at_call 42; ((with_reducible refine (HPO.out _ _ _ H1.out H2.out).mono ?_); rintro e w' ⟨vh, rfl, hr, hb⟩; (try replace HA := Aside0.mk (HA.out.below hb)); (try replace HI := Aside0.mk (HI.out.below hb)); (try replace HW := Aside0.mk (HW.out.below hb)); (try replace B0 := pw_cell_below hb B0); (try replace B1 := pw_cell_below hb B1); (try replace B2 := pw_cell_below hb B2); (try replace HGO := Aside0.mk (Kd.R_below HGO.out hb)); (try replace HBX := Aside0.mk (bthen HBX.out hb)); (try replace H1 := Aside0.mk (H1.out.below hb)); (try replace H2 := Aside0.mk (H2.out.below hb)); (try replace H6 := Aside0.mk (H6.out.below hb)); replace HB := Aside0.mk (bthen HB.out hb); have H6 := Aside0.mk (Sl.of_R hr); clear hr hb))
  | (go_at_call 60; ((with_reducible refine (laws_eqItemS vh vw ts _ H6.out HW.out (Nat.le_trans HTS.out (by decide))).mono ?_); rintro e w' ⟨rfl, hb⟩; (try replace HA := Aside0.mk (HA.out.below hb)); (try replace HI := Aside0.mk (HI.out.below hb)); (try replace HW := Aside0.mk (HW.out.below hb)); (try replace B0 := pw_cell_below hb B0); (try replace B1 := pw_cell_below hb B1); (try replace B2 := pw_cell_below hb B2); (try replace HGO := Aside0.mk (Kd.R_below HGO.out hb)); (try replace HBX := Aside0.mk (bthen HBX.out hb)); (try replace H1 := Aside0.mk (H1.out.below hb)); (try replace H2 := Aside0.mk (H2.out.below hb)); (try replace H6 := Aside0.mk (H6.out.below hb)); replace HB := Aside0.mk (bthen HB.out hb); clear hb)))
 go_ret
 exact RetV.mk rfl HB.out
end Go.Proofs.Ytkdendlgaaimbaa.X
