/- Conditions: none. -/
import Derived.Test.YtkdendlgaaimbaaYDSpX
import Derived.Test.YtkdendlgaaimbaaYDExact2
import Derived.Test.YtkdendlgaaimbaaYDPlH
import Derived.Test.YtkdendlgaaimbaaYDSpM
namespace Go.Proofs.Ytkdendlgaaimbaa.X
open Go.RowKit Go.Proofs.YtkdendlgaaimbaaW.PrintWords
set_option linter.unusedVariables false
set_option linter.unusedSimpArgs false
set_option maxRecDepth 100000 in
set_option maxHeartbeats 4000000 in
theorem laws_FnExactSpineIn (u v : Value) (ls : List (List Rw)) (f : List Tm) (v2 : Value) (l : List Rw) (w : World) (hu : Sl (Kd.slice 132 kRw) w u ls) (hv : Sl kTm w v f) (h2 : Sl kRw w v2 l) : Calls Try.prog 11 #[.agg #[u, v], v2] w (RetV w (.bool true)) := by
 have HA := Aside0.mk (show SpL w u v ls f from ⟨hu, hv⟩)
 have HF := Aside0.mk h2
 obtain ⟨A, c, rfl, hc, hr⟩ := hu
 obtain ⟨A2, c2, rfl, hc2, hr2⟩ := hv
 obtain ⟨A3, c3, rfl, hc3, hr3⟩ := h2
 have hm3 := Kd.C_max hr3
 have him := inner_max hr
 obtain ⟨r, hrr, C1⟩ := laws_szSpine ls f 1048576 (by omega) (by omega) (Kd.C_max hr) him (Kd.C_max hr2)
 clear hr hr2 hr3
 have HB := Aside0.mk (Below.refl w.heap.size w)
 go_enter Try.func11, Try.ntmps11
 go_upto_region 2 with fail
 refine name_world fun W0 hW0 => ?_
 have hb0 : Below w.heap.size w W0 := hW0 ▸ below_alloc (Below.refl _ _) _
 have B0 : W0.cell? ⟨w.heap.size, 0, none⟩ = some (.slice A ls.length c) := by rw [hW0]; simp
 have B1 : W0.cell? ⟨w.heap.size, 1, none⟩ = some (.slice A2 f.length c2) := by rw [hW0]; simp
 clear hW0
 replace HB := Aside0.mk hb0
 replace HA := Aside0.mk (HA.out.below hb0)
 replace HF := Aside0.mk (HF.out.below hb0)
 clear hb0
 rcases hrr with rfl | ⟨r0, r1, hbs⟩
 ·go_wp2_with (first
   | (go_at_call 46; ((with_reducible refine (C1 _ _ _ HA.out).mono ?_); rintro e w' ⟨rfl, hb⟩; (try replace HA := Aside0.mk (HA.out.below hb)); (try replace HF := Aside0.mk (HF.out.below hb)); replace HB := Aside0.mk (bthen HB.out hb); clear hb)))
  go_ret
  exact RetV.mk rfl HB.out
 have hneg : decide (r < 0) = false := decide_eq_false (by omega)
 by_cases hlb : r < (l.length : Int)
 ·go_wp2_with (first
   | (go_at_call 46; ((with_reducible refine (C1 _ _ _ HA.out).mono ?_); rintro e w' ⟨rfl, hb⟩; (try replace HA := Aside0.mk (HA.out.below hb)); (try replace HF := Aside0.mk (HF.out.below hb)); (try replace B0 := pw_cell_below hb B0); (try replace B1 := pw_cell_below hb B1); replace HB := Aside0.mk (bthen HB.out hb); clear hb))
   | (go_at_call 47; ((with_reducible refine (laws_szRowS_big (.slice A3 l.length c3) l r _ HF.out r0 r1 hlb).mono ?_); rintro e w' ⟨rfl, hb⟩; (try replace HA := Aside0.mk (HA.out.below hb)); (try replace HF := Aside0.mk (HF.out.below hb)); (try replace B0 := pw_cell_below hb B0); (try replace B1 := pw_cell_below hb B1); replace HB := Aside0.mk (bthen HB.out hb); clear hb)))
  go_ret
  exact RetV.mk rfl HB.out
 have hneg2 : decide (r - (l.length : Int) < 0) = false := decide_eq_false (by omega)
 have hll : l.length ≤ 1048576 := by omega
 have CZ := fun W h => laws_szRowS_ok (.slice A3 l.length c3) l r W h r0 r1 hlb
 have CS := fun x y z W hx hy => spec_SpineIn x y z ls f l W hx hy hbs hll
 have CI := fun x y z W hx hy => impl_SpineIn x y z ls f l W hx hy hbs hll
 have hbL := inSp hbs hll
 generalize inL ls f l = L at *
 generalize inF ls f l = F at *
 generalize inB ls f l = bb at *
 have hbL2 := hbL.l
 have hbF2 := hbL.f
 go_upto_region 9 with (first
  | (go_at_call 46; ((with_reducible refine (C1 _ _ _ HA.out).mono ?_); rintro e w' ⟨rfl, hb⟩; (try replace HA := Aside0.mk (HA.out.below hb)); (try replace HF := Aside0.mk (HF.out.below hb)); (try replace H2 := Aside0.mk (H2.out.below hb)); (try replace B0 := pw_cell_below hb B0); (try replace B1 := pw_cell_below hb B1); (try replace HX1 := Aside0.mk (Kd.R_below HX1.out hb)); (try replace HBX := Aside0.mk (bthen HBX.out hb)); (try replace H1 := Aside0.mk (H1.out.below hb)); (try replace H2 := Aside0.mk (H2.out.below hb)); replace HB := Aside0.mk (bthen HB.out hb); clear hb))
  | (go_at_call 47; ((with_reducible refine (CZ _ HF.out).mono ?_); rintro e w' ⟨rfl, hb⟩; (try replace HA := Aside0.mk (HA.out.below hb)); (try replace HF := Aside0.mk (HF.out.below hb)); (try replace H2 := Aside0.mk (H2.out.below hb)); (try replace B0 := pw_cell_below hb B0); (try replace B1 := pw_cell_below hb B1); (try replace HX1 := Aside0.mk (Kd.R_below HX1.out hb)); (try replace HBX := Aside0.mk (bthen HBX.out hb)); (try replace H1 := Aside0.mk (H1.out.below hb)); (try replace H2 := Aside0.mk (H2.out.below hb)); replace HB := Aside0.mk (bthen HB.out hb); clear hb))
  | (go_at_call 48; ((with_reducible refine (laws_toSpine _ _ ls f _ HA.out hbs).mono ?_); rintro e w' ⟨xa, xb, rfl, hr, hb⟩; (try replace HA := Aside0.mk (HA.out.below hb)); (try replace HF := Aside0.mk (HF.out.below hb)); (try replace H2 := Aside0.mk (H2.out.below hb)); (try replace B0 := pw_cell_below hb B0); (try replace B1 := pw_cell_below hb B1); (try replace HX1 := Aside0.mk (Kd.R_below HX1.out hb)); (try replace HBX := Aside0.mk (bthen HBX.out hb)); (try replace H1 := Aside0.mk (H1.out.below hb)); (try replace H2 := Aside0.mk (H2.out.below hb)); replace HB := Aside0.mk (bthen HB.out hb); have H1 := Aside0.mk hr.s; clear hr hb))
  | (go_at_call 49; ((with_reducible refine (laws_toRowS (.slice A3 l.length c3) l _ HF.out (by omega)).mono ?_); rintro e w' ⟨vt, rfl, hr, hb⟩; (try replace HA := Aside0.mk (HA.out.below hb)); (try replace HF := Aside0.mk (HF.out.below hb)); (try replace H2 := Aside0.mk (H2.out.below hb)); (try replace B0 := pw_cell_below hb B0); (try replace B1 := pw_cell_below hb B1); (try replace HX1 := Aside0.mk (Kd.R_below HX1.out hb)); (try replace HBX := Aside0.mk (bthen HBX.out hb)); (try replace H1 := Aside0.mk (H1.out.below hb)); (try replace H2 := Aside0.mk (H2.out.below hb)); replace HB := Aside0.mk (bthen HB.out hb); have H2 := Aside0.mk (Sl.of_R hr); clear hr hb))
  | (go_at_call 19; ((with_reducible refine (CS _ _ _ _ H1.out H2.out).mono ?_); rintro e w' ⟨va, vb, rfl, hr, hb⟩; (try replace HA := Aside0.mk (HA.out.below hb)); (try replace HF := Aside0.mk (HF.out.below hb)); (try replace H2 := Aside0.mk (H2.out.below hb)); (try replace B0 := pw_cell_below hb B0); (try replace B1 := pw_cell_below hb B1); (try replace HX1 := Aside0.mk (Kd.R_below HX1.out hb)); (try replace HBX := Aside0.mk (bthen HBX.out hb)); (try replace H1 := Aside0.mk (H1.out.below hb)); (try replace H2 := Aside0.mk (H2.out.below hb)); replace HB := Aside0.mk (bthen HB.out hb); have HW := Aside0.mk hr.s; obtain ⟨A5, c5, rfl⟩ := Kd.R_slice hr.1; obtain ⟨A6, c6, rfl⟩ := Kd.R_slice hr.2; clear hr hb)))
 clear H1 C1 H2
 rename World => Wy
 refine name_world fun Wx hWx => ?_
 have hbx : Below Wy.heap.size Wy Wx := hWx ▸ below_alloc (Below.refl _ _) _
 obtain ⟨M, hM⟩ : ∃ M, M = Wy.heap.size := ⟨_, rfl⟩
 have V0 : Wx.cell? ⟨M, 0, none⟩ = some (.slice A5 L.length c5) := by rw [hWx, hM]; simp
 have V1 : Wx.cell? ⟨M, 1, none⟩ = some (.slice A6 F.length c6) := by rw [hWx, hM]; simp
 try rw [← hM]
 replace B0 := pw_cell_below hbx B0
 replace B1 := pw_cell_below hbx B1
 replace HA := Aside0.mk (HA.out.below hbx)
 replace HF := Aside0.mk (HF.out.below hbx)
 replace HW := Aside0.mk (HW.out.below hbx)
 replace HB := Aside0.mk (bthen HB.out hbx)
 clear hWx hM hbx
 have HA0 := HA
 have HF0 := HF
 have HW0 := HW
 have HBW0 := HB
 have B00 := B0
 have B10 := B1
 have V00 := V0
 have V10 := V1
 go_upto_region 10 with (go_at_call 48; ((with_reducible refine (laws_toSpine _ _ ls f _ HA.out hbs).mono ?_); rintro e w2 ⟨xa, xb, rfl, hr, hb⟩; obtain ⟨P0, P1, hsp, hap, hbd⟩ := hr.split; have HXW := Aside0.mk hsp; have HBX := Aside0.mk hb; obtain ⟨A7, c7, rfl⟩ := Kd.S_slice hsp.1; obtain ⟨A8, c8, rfl⟩ := Kd.R_slice hsp.2; replace B0 := pw_cell_below hb B0; replace B1 := pw_cell_below hb B1; replace V0 := pw_cell_below hb V0; replace V1 := pw_cell_below hb V1; replace HA := Aside0.mk (HA.out.below hb); replace HF := Aside0.mk (HF.out.below hb); replace HW := Aside0.mk (HW.out.below hb); replace HB := Aside0.mk (bthen HB.out hb); clear hr hb hsp))
 refine name_world fun W1 hW1 => ?_
 have hb1 : Below w2.heap.size w2 W1 := hW1 ▸ below_alloc (Below.refl _ _) _
 have X0 : W1.cell? ⟨w2.heap.size, 0, none⟩ = some (.slice A7 ls.length c7) := by rw [hW1]; simp
 have X1 : W1.cell? ⟨w2.heap.size, 1, none⟩ = some (.slice A8 f.length c8) := by rw [hW1]; simp
 have hsz : w2.heap.size < W1.heap.size := by rw [hW1]; simp
 clear hW1
 replace B0 := pw_cell_below hb1 B0
 replace B1 := pw_cell_below hb1 B1
 replace V0 := pw_cell_below hb1 V0
 replace V1 := pw_cell_below hb1 V1
 replace HA := Aside0.mk (HA.out.below hb1)
 replace HF := Aside0.mk (HF.out.below hb1)
 replace HW := Aside0.mk (HW.out.below hb1)
 replace HXW := Aside0.mk (HXW.out.below hb1)
 replace HBX := Aside0.mk (bthen HBX.out hb1)
 replace HB := Aside0.mk (bthen HB.out hb1)
 clear hb1
 obtain ⟨N, hN⟩ : ∃ N, N = w2.heap.size := ⟨_, rfl⟩
 rw [← hN] at X0 X1 hsz hbd ⊢
 clear hN
 have HBD := Aside0.mk hbd
 have HAP := Aside0.mk hap
 have HSZ := Aside0.mk hsz
 clear hbd hap hsz
 go_upto_region 11 with (go_at_call 49; ((with_reducible refine (laws_toRowS (.slice A3 l.length c3) l _ HF.out (by omega)).mono ?_); rintro e w3 ⟨v1, rfl, hr, hb⟩; have HX1 := Aside0.mk (Kd.R_lower (Kd.R_mono (Kd.R_bound hr) (ok' := fun q => N < q ∧ q < w3.heap.size) (fun q hq => ⟨Nat.lt_of_lt_of_le HSZ.out hq.2.1, hq.2.2.1⟩)) HBX.out.size); replace B0 := pw_cell_below hb B0; replace B1 := pw_cell_below hb B1; replace V0 := pw_cell_below hb V0; replace V1 := pw_cell_below hb V1; replace X0 := pw_cell_below hb X0; replace X1 := pw_cell_below hb X1; replace HA := Aside0.mk (HA.out.below hb); replace HF := Aside0.mk (HF.out.below hb); replace HW := Aside0.mk (HW.out.below hb); replace HXW := Aside0.mk (HXW.out.below hb); replace HBX := Aside0.mk (bthen HBX.out hb); replace HB := Aside0.mk (bthen HB.out hb); clear hr))
 have hsz := HSZ.out
 have hsz2 := hb.size
 obtain ⟨N2, hN2⟩ : ∃ N2, N2 = w3.heap.size := ⟨_, rfl⟩
 rw [← hN2] at HX1
 have HN2 := Aside0.mk (show N < N2 ∧ N2 ≤ w3.heap.size by omega)
 clear hb hN2 hsz hsz2
 go_upto_region 12 with (go_at_call 15; ((with_reducible refine (CI _ _ _ _ HXW.out.s (Sl.of_R HX1.out)).mono ?_); rintro e w4 ⟨ga, gb, rfl, hr, hb⟩; obtain ⟨P2, P3, hgp, hap2, hbd2⟩ := hr.split; have HGW := Aside0.mk (hgp.lower HBX.out.size); obtain ⟨A9, c9, rfl⟩ := Kd.S_slice hgp.1; obtain ⟨A10, c10, rfl⟩ := Kd.R_slice hgp.2; have hle4 := Aside0.mk hb.size; replace B0 := pw_cell_below hb B0; replace B1 := pw_cell_below hb B1; replace V0 := pw_cell_below hb V0; replace V1 := pw_cell_below hb V1; replace X0 := pw_cell_below hb X0; replace X1 := pw_cell_below hb X1; replace HA := Aside0.mk (HA.out.below hb); replace HF := Aside0.mk (HF.out.below hb); replace HW := Aside0.mk (HW.out.below hb); replace HXW := Aside0.mk (HXW.out.below hb); replace HX1 := Aside0.mk (Kd.R_below HX1.out hb); replace HBX := Aside0.mk (bthen HBX.out hb); replace HB := Aside0.mk (bthen HB.out hb); clear hr hb hgp))
 have HBD2 := Aside0.mk (show ∀ q, P2 q ∨ P3 q → N2 ≤ q ∧ q < w4.heap.size from fun q hq => ⟨Nat.le_trans HN2.out.2 (hbd2 q hq).1, (hbd2 q hq).2⟩)
 have HAP2 := Aside0.mk hap2
 clear hbd2 hap2
 refine name_world fun W5 hW5 => ?_
 have hb5 : Below w4.heap.size w4 W5 := hW5 ▸ below_alloc (Below.refl _ _) _
 have hle := HBX.out.size
 have G0 : W5.cell? ⟨w4.heap.size, 0, none⟩ = some (.slice A9 L.length c9) := by rw [hW5]; simp
 have G1 : W5.cell? ⟨w4.heap.size, 1, none⟩ = some (.slice A10 F.length c10) := by rw [hW5]; simp
 clear hW5
 replace B0 := pw_cell_below hb5 B0
 replace B1 := pw_cell_below hb5 B1
 replace V0 := pw_cell_below hb5 V0
 replace V1 := pw_cell_below hb5 V1
 replace X0 := pw_cell_below hb5 X0
 replace X1 := pw_cell_below hb5 X1
 replace HA := Aside0.mk (HA.out.below hb5)
 replace HF := Aside0.mk (HF.out.below hb5)
 replace HW := Aside0.mk (HW.out.below hb5)
 replace HXW := Aside0.mk (HXW.out.below hb5)
 replace HGW := Aside0.mk (HGW.out.below hb5)
 replace HX1 := Aside0.mk (Kd.R_below HX1.out hb5)
 replace HBX := Aside0.mk (bthen HBX.out hb5)
 replace HB := Aside0.mk (bthen HB.out hb5)
 clear hb5
 obtain ⟨G, hG⟩ : ∃ G, G = w4.heap.size := ⟨_, rfl⟩
 rw [← hG] at G0 G1 HBD2 ⊢
 have HNG := Aside0.mk (show N2 ≤ G by have := HN2.out.2; have := hle4.out; omega)
 clear hG hle
 have qm : (bb != bb) = false := by cases bb <;> rfl
 go_upto_region 14 with (first
  | (go_at_call 50; ((with_reducible refine (laws_eqSpine _ _ _ _ L F _ HGW.out.s HW.out hbL).mono ?_); rintro e w' ⟨rfl, hb⟩; (try replace HA := Aside0.mk (HA.out.below hb)); (try replace HF := Aside0.mk (HF.out.below hb)); (try replace HW := Aside0.mk (HW.out.below hb)); (try replace HXW := Aside0.mk (HXW.out.below hb)); (try replace HGW := Aside0.mk (HGW.out.below hb)); (try replace B0 := pw_cell_below hb B0); (try replace B1 := pw_cell_below hb B1); (try replace V0 := pw_cell_below hb V0); (try replace V1 := pw_cell_below hb V1); (try replace X0 := pw_cell_below hb X0); (try replace X1 := pw_cell_below hb X1); (try replace G0 := pw_cell_below hb G0); (try replace G1 := pw_cell_below hb G1); (try replace HX1 := Aside0.mk (Kd.R_below HX1.out hb)); (try replace HBX := Aside0.mk (bthen HBX.out hb)); (try replace H1 := Aside0.mk (H1.out.below hb)); (try replace H2 := Aside0.mk (H2.out.below hb)); replace HB := Aside0.mk (bthen HB.out hb); clear hb)))
 have dB0 := pw_cell_below (below_drew (Below.refl _ _)) B0
 have dB1 := pw_cell_below (below_drew (Below.refl _ _)) B1
 have dV0 := pw_cell_below (below_drew (Below.refl _ _)) V0
 have dV1 := pw_cell_below (below_drew (Below.refl _ _)) V1
 have dX0 := pw_cell_below (below_drew (Below.refl _ _)) X0
 have dX1 := pw_cell_below (below_drew (Below.refl _ _)) X1
 have dG0 := pw_cell_below (below_drew (Below.refl _ _)) G0
 have dG1 := pw_cell_below (below_drew (Below.refl _ _)) G1
 replace HA := Aside0.mk (HA.out.below (below_drew (Below.refl _ _)))
 replace HF := Aside0.mk (HF.out.below (below_drew (Below.refl _ _)))
 replace HW := Aside0.mk (HW.out.below (below_drew (Below.refl _ _)))
 replace HXW := Aside0.mk (HXW.out.below (below_drew (Below.refl _ _)))
 replace HGW := Aside0.mk (HGW.out.below (below_drew (Below.refl _ _)))
 replace HX1 := Aside0.mk (Kd.R_below HX1.out (below_drew (Below.refl _ _)))
 replace HBX := Aside0.mk (below_drew HBX.out)
 replace HB := Aside0.mk (below_drew HB.out)
 go_region_held3 (fun w' => w'.cell? ⟨w.heap.size, 0, none⟩ = some (.slice A ls.length c) ∧ w'.cell? ⟨w.heap.size, 1, none⟩ = some (.slice A2 f.length c2) ∧ w'.cell? ⟨M, 0, none⟩ = some (.slice A5 L.length c5) ∧ w'.cell? ⟨M, 1, none⟩ = some (.slice A6 F.length c6) ∧ w'.cell? ⟨N, 0, none⟩ = some (.slice A7 ls.length c7) ∧ w'.cell? ⟨N, 1, none⟩ = some (.slice A8 f.length c8) ∧ w'.cell? ⟨G, 0, none⟩ = some (.slice A9 L.length c9) ∧ w'.cell? ⟨G, 1, none⟩ = some (.slice A10 F.length c10)) (first | exact ⟨B0, B1, V0, V1, X0, X1, G0, G1⟩ | exact ⟨dB0, dB1, dV0, dV1, dX0, dX1, dG0, dG1⟩)
  (first
  | (go_at_call 48; ((with_reducible refine (laws_toSpine _ _ ls f _ HA.out hbs).mono ?_); rintro e w' ⟨xa2, xb2, rfl, hr, hb⟩; (try replace HA := Aside0.mk (HA.out.below hb)); (try replace HF := Aside0.mk (HF.out.below hb)); (try replace HW := Aside0.mk (HW.out.below hb)); (try replace HXW := Aside0.mk (HXW.out.below hb)); (try replace HGW := Aside0.mk (HGW.out.below hb)); (try replace HX1 := Aside0.mk (Kd.R_below HX1.out hb)); (try replace HBX := Aside0.mk (bthen HBX.out hb)); (try replace H1 := Aside0.mk (H1.out.below hb)); (try replace H2 := Aside0.mk (H2.out.below hb)); replace dB0 := pw_cell_below hb dB0; replace dB1 := pw_cell_below hb dB1; replace dV0 := pw_cell_below hb dV0; replace dV1 := pw_cell_below hb dV1; replace dX0 := pw_cell_below hb dX0; replace dX1 := pw_cell_below hb dX1; replace dG0 := pw_cell_below hb dG0; replace dG1 := pw_cell_below hb dG1; replace HB := Aside0.mk (bthen HB.out hb); have H1 := Aside0.mk hr.s; clear hr hb))
  | (go_at_call 50; ((with_reducible refine (laws_eqSpine _ _ _ _ ls f _ HXW.out.s H1.out hbs).mono ?_); rintro e w' ⟨rfl, hb⟩; (try replace HA := Aside0.mk (HA.out.below hb)); (try replace HF := Aside0.mk (HF.out.below hb)); (try replace HW := Aside0.mk (HW.out.below hb)); (try replace HXW := Aside0.mk (HXW.out.below hb)); (try replace HGW := Aside0.mk (HGW.out.below hb)); (try replace HX1 := Aside0.mk (Kd.R_below HX1.out hb)); (try replace HBX := Aside0.mk (bthen HBX.out hb)); (try replace H1 := Aside0.mk (H1.out.below hb)); (try replace H2 := Aside0.mk (H2.out.below hb)); replace dB0 := pw_cell_below hb dB0; replace dB1 := pw_cell_below hb dB1; replace dV0 := pw_cell_below hb dV0; replace dV1 := pw_cell_below hb dV1; replace dX0 := pw_cell_below hb dX0; replace dX1 := pw_cell_below hb dX1; replace dG0 := pw_cell_below hb dG0; replace dG1 := pw_cell_below hb dG1; replace HB := Aside0.mk (bthen HB.out hb); clear hb)))
 clear B0 B1 V0 V1 X0 X1 G0 G1
 have B0 := dB0
 have B1 := dB1
 have V0 := dV0
 have V1 := dV1
 have X0 := dX0
 have X1 := dX1
 have G0 := dG0
 have G1 := dG1
 clear dB0 dB1 dV0 dV1 dX0 dX1 dG0 dG1
 clear H1
 have qe : eqRwS l l = true := (eqRwS_iff l l).2 rfl
 go_upto_region 19 with (first
  | (go_at_call 49; ((with_reducible refine (laws_toRowS (.slice A3 l.length c3) l _ HF.out (by omega)).mono ?_); rintro e w' ⟨v3, rfl, hr, hb⟩; (try replace HA := Aside0.mk (HA.out.below hb)); (try replace HF := Aside0.mk (HF.out.below hb)); (try replace HW := Aside0.mk (HW.out.below hb)); (try replace HXW := Aside0.mk (HXW.out.below hb)); (try replace HGW := Aside0.mk (HGW.out.below hb)); (try replace H2 := Aside0.mk (H2.out.below hb)); (try replace B0 := pw_cell_below hb B0); (try replace B1 := pw_cell_below hb B1); (try replace V0 := pw_cell_below hb V0); (try replace V1 := pw_cell_below hb V1); (try replace X0 := pw_cell_below hb X0); (try replace X1 := pw_cell_below hb X1); (try replace G0 := pw_cell_below hb G0); (try replace G1 := pw_cell_below hb G1); (try replace HX1 := Aside0.mk (Kd.R_below HX1.out hb)); (try replace HBX := Aside0.mk (bthen HBX.out hb)); (try replace H1 := Aside0.mk (H1.out.below hb)); (try replace H2 := Aside0.mk (H2.out.below hb)); replace HB := Aside0.mk (bthen HB.out hb); have H2 := Aside0.mk (Sl.of_R hr); clear hr hb))
  | (go_at_call 51; ((with_reducible refine (laws_eqRowS v1 v3 l l _ (Sl.of_R HX1.out) H2.out).mono ?_); rintro e w' ⟨rfl, hb⟩; (try replace HA := Aside0.mk (HA.out.below hb)); (try replace HF := Aside0.mk (HF.out.below hb)); (try replace HW := Aside0.mk (HW.out.below hb)); (try replace HXW := Aside0.mk (HXW.out.below hb)); (try replace HGW := Aside0.mk (HGW.out.below hb)); (try replace H2 := Aside0.mk (H2.out.below hb)); (try replace B0 := pw_cell_below hb B0); (try replace B1 := pw_cell_below hb B1); (try replace V0 := pw_cell_below hb V0); (try replace V1 := pw_cell_below hb V1); (try replace X0 := pw_cell_below hb X0); (try replace X1 := pw_cell_below hb X1); (try replace G0 := pw_cell_below hb G0); (try replace G1 := pw_cell_below hb G1); (try replace HX1 := Aside0.mk (Kd.R_below HX1.out hb)); (try replace HBX := Aside0.mk (bthen HBX.out hb)); (try replace H1 := Aside0.mk (H1.out.below hb)); (try replace H2 := Aside0.mk (H2.out.below hb)); replace HB := Aside0.mk (bthen HB.out hb); clear hb)))
 clear H2
 have hm5 := many_le hbs.ls
 have hm6 := Nat.mul_le_mul_left 1048576 hbs.l
 have hm7 := hbs.f
 have hk0 : ¬ (1 + 5 * (many ls : Int) + 2 * (f.length : Int) < 0) := by omega
 clear HB HA HF HW B0 B1 V0 V1
 go_upto_region 20 with (go_at_call 52; ((with_reducible refine (laws_markSpineW P0 P1 _ _ ls f Wx _ HBX.out HXW.out HAP.out hbs).mono ?_); rintro e w6 ⟨rfl, hr, hb, hk⟩; replace HGW := Aside0.mk (HGW.out.kept hk (fun q hq hs => by have h1 := (HBD.out q hs).2; have h2 := (HBD2.out q hq).1; have h3 := HN2.out.1; omega)); replace G0 := kept_cell hk G0 (fun hs => by have h1 := (HBD.out G hs).2; have h2 := HNG.out; have h3 := HN2.out.1; omega); replace G1 := kept_cell hk G1 (fun hs => by have h1 := (HBD.out G hs).2; have h2 := HNG.out; have h3 := HN2.out.1; omega); replace HX1 := Aside0.mk (Kd.R_kept HX1.out hk (fun q hq hs => by have h1 := (HBD.out q hs).2; have h2 := hq.1; omega)); have HA := Aside0.mk (HA0.out.below hb); have HF := Aside0.mk (HF0.out.below hb); have HW := Aside0.mk (HW0.out.below hb); have B0 := pw_cell_below hb B00; have B1 := pw_cell_below hb B10; have V0 := pw_cell_below hb V00; have V1 := pw_cell_below hb V10; replace HBX := Aside0.mk hb; have HB := Aside0.mk (bthen HBW0.out hb); clear hr hb hk HXW X0 X1))
 clear HB HA HF HW B0 B1 V0 V1
 have hk1 : ¬ (1 + 5 * (many ls : Int) + 2 * (f.length : Int) + 5 * (l.length : Int) < 0) := by omega
 go_upto_region 21 with (go_at_call 53; ((with_reducible refine (laws_markRowS (fun q => N < q ∧ q < N2) v1 l (1 + 5 * (many ls : Int) + 2 * (f.length : Int)) Wx _ HBX.out HX1.out (by omega) (by omega)).mono ?_); rintro e w7 ⟨rfl, hr, hb, hk⟩; replace HGW := Aside0.mk (HGW.out.kept hk (fun q hq hs => by have h1 : q < N2 := hs.2; have h2 := (HBD2.out q hq).1; omega)); replace G0 := kept_cell hk G0 (fun hs => by have h1 : G < N2 := hs.2; have h2 := HNG.out; omega); replace G1 := kept_cell hk G1 (fun hs => by have h1 : G < N2 := hs.2; have h2 := HNG.out; omega); have HA := Aside0.mk (HA0.out.below hb); have HF := Aside0.mk (HF0.out.below hb); have HW := Aside0.mk (HW0.out.below hb); have B0 := pw_cell_below hb B00; have B1 := pw_cell_below hb B10; have V0 := pw_cell_below hb V00; have V1 := pw_cell_below hb V10; replace HBX := Aside0.mk hb; have HB := Aside0.mk (bthen HBW0.out hb); clear hr hb hk HX1))
 go_upto_region 24 with (first
  | (go_at_call 50; ((with_reducible refine (laws_eqSpine _ _ _ _ L F _ HGW.out.s HW.out hbL).mono ?_); rintro e w' ⟨rfl, hb⟩; (try replace HA := Aside0.mk (HA.out.below hb)); (try replace HF := Aside0.mk (HF.out.below hb)); (try replace HW := Aside0.mk (HW.out.below hb)); (try replace HGW := Aside0.mk (HGW.out.below hb)); (try replace B0 := pw_cell_below hb B0); (try replace B1 := pw_cell_below hb B1); (try replace V0 := pw_cell_below hb V0); (try replace V1 := pw_cell_below hb V1); (try replace G0 := pw_cell_below hb G0); (try replace G1 := pw_cell_below hb G1); (try replace HBX := Aside0.mk (bthen HBX.out hb)); (try replace H1 := Aside0.mk (H1.out.below hb)); (try replace H2 := Aside0.mk (H2.out.below hb)); replace HB := Aside0.mk (bthen HB.out hb); clear hb)))
 clear HB HA HF HW B0 B1 V0 V1
 have hm8 := many_le hbL.ls
 have hm9 := Nat.mul_le_mul_left 1048576 hbL.l
 have hk2 : ¬ (1 + 5 * (many L : Int) + 2 * (F.length : Int) < 0) := by omega
 go_upto_region 25 with (go_at_call 52; ((with_reducible refine (laws_markSpineW P2 P3 _ _ L F Wx _ HBX.out HGW.out HAP2.out hbL).mono ?_); rintro e w8 ⟨rfl, hr, hb, hk⟩; have HGM := Aside0.mk hr; replace G0 := kept_cell hk G0 (fun hs => by have h1 := (HBD2.out G hs).2; omega); replace G1 := kept_cell hk G1 (fun hs => by have h1 := (HBD2.out G hs).2; omega); have HA := Aside0.mk (HA0.out.below hb); have HF := Aside0.mk (HF0.out.below hb); have HW := Aside0.mk (HW0.out.below hb); have B0 := pw_cell_below hb B00; have B1 := pw_cell_below hb B10; have V0 := pw_cell_below hb V00; have V1 := pw_cell_below hb V10; replace HBX := Aside0.mk hb; have HB := Aside0.mk (bthen HBW0.out hb); clear hr hb hk HGW))
 go_upto_region 32 with (first
  | (go_at_call 54; ((with_reducible refine (laws_heldSpine _ _ L F _ HGM.out.s hbL).mono ?_); rintro e w' ⟨rfl, hb⟩; (try replace HA := Aside0.mk (HA.out.below hb)); (try replace HF := Aside0.mk (HF.out.below hb)); (try replace HW := Aside0.mk (HW.out.below hb)); (try replace HGM := Aside0.mk (HGM.out.below hb)); (try replace H2 := Aside0.mk (H2.out.below hb)); (try replace B0 := pw_cell_below hb B0); (try replace B1 := pw_cell_below hb B1); (try replace V0 := pw_cell_below hb V0); (try replace V1 := pw_cell_below hb V1); (try replace G0 := pw_cell_below hb G0); (try replace G1 := pw_cell_below hb G1); (try replace HBX := Aside0.mk (bthen HBX.out hb)); (try replace H1 := Aside0.mk (H1.out.below hb)); (try replace H2 := Aside0.mk (H2.out.below hb)); replace HB := Aside0.mk (bthen HB.out hb); clear hb))
  | (go_at_call 48; ((with_reducible refine (laws_toSpine _ _ ls f _ HA.out hbs).mono ?_); rintro e w' ⟨xa5, xb5, rfl, hr, hb⟩; (try replace HA := Aside0.mk (HA.out.below hb)); (try replace HF := Aside0.mk (HF.out.below hb)); (try replace HW := Aside0.mk (HW.out.below hb)); (try replace HGM := Aside0.mk (HGM.out.below hb)); (try replace H2 := Aside0.mk (H2.out.below hb)); (try replace B0 := pw_cell_below hb B0); (try replace B1 := pw_cell_below hb B1); (try replace V0 := pw_cell_below hb V0); (try replace V1 := pw_cell_below hb V1); (try replace G0 := pw_cell_below hb G0); (try replace G1 := pw_cell_below hb G1); (try replace HBX := Aside0.mk (bthen HBX.out hb)); (try replace H1 := Aside0.mk (H1.out.below hb)); (try replace H2 := Aside0.mk (H2.out.below hb)); replace HB := Aside0.mk (bthen HB.out hb); have H1 := Aside0.mk hr.s; clear hr hb))
  | (go_at_call 49; ((with_reducible refine (laws_toRowS (.slice A3 l.length c3) l _ HF.out (by omega)).mono ?_); rintro e w' ⟨v6, rfl, hr, hb⟩; (try replace HA := Aside0.mk (HA.out.below hb)); (try replace HF := Aside0.mk (HF.out.below hb)); (try replace HW := Aside0.mk (HW.out.below hb)); (try replace HGM := Aside0.mk (HGM.out.below hb)); (try replace H2 := Aside0.mk (H2.out.below hb)); (try replace B0 := pw_cell_below hb B0); (try replace B1 := pw_cell_below hb B1); (try replace V0 := pw_cell_below hb V0); (try replace V1 := pw_cell_below hb V1); (try replace G0 := pw_cell_below hb G0); (try replace G1 := pw_cell_below hb G1); (try replace HBX := Aside0.mk (bthen HBX.out hb)); (try replace H1 := Aside0.mk (H1.out.below hb)); (try replace H2 := Aside0.mk (H2.out.below hb)); replace HB := Aside0.mk (bthen HB.out hb); have H2 := Aside0.mk (Sl.of_R hr); clear hr hb))
  | (go_at_call 15; ((with_reducible refine (CI _ _ _ _ H1.out H2.out).mono ?_); rintro e w9 ⟨ha, hb', rfl, hr, hb⟩; (try replace HA := Aside0.mk (HA.out.below hb)); (try replace HF := Aside0.mk (HF.out.below hb)); (try replace HW := Aside0.mk (HW.out.below hb)); (try replace HGM := Aside0.mk (HGM.out.below hb)); (try replace H2 := Aside0.mk (H2.out.below hb)); (try replace B0 := pw_cell_below hb B0); (try replace B1 := pw_cell_below hb B1); (try replace V0 := pw_cell_below hb V0); (try replace V1 := pw_cell_below hb V1); (try replace G0 := pw_cell_below hb G0); (try replace G1 := pw_cell_below hb G1); (try replace HBX := Aside0.mk (bthen HBX.out hb)); (try replace H1 := Aside0.mk (H1.out.below hb)); (try replace H2 := Aside0.mk (H2.out.below hb)); replace HB := Aside0.mk (bthen HB.out hb); have HH := Aside0.mk hr.s; obtain ⟨A11, c11, rfl⟩ := Kd.S_slice hr.1; obtain ⟨A12, c12, rfl⟩ := Kd.R_slice hr.2; clear hr hb)))
 clear H1 H2
 refine name_world fun W10 hW10 => ?_
 have hb10 : Below w9.heap.size w9 W10 := hW10 ▸ below_alloc (Below.refl _ _) _
 have Y0 : W10.cell? ⟨w9.heap.size, 0, none⟩ = some (.slice A11 L.length c11) := by rw [hW10]; simp
 have Y1 : W10.cell? ⟨w9.heap.size, 1, none⟩ = some (.slice A12 F.length c12) := by rw [hW10]; simp
 clear hW10
 replace B0 := pw_cell_below hb10 B0
 replace B1 := pw_cell_below hb10 B1
 replace V0 := pw_cell_below hb10 V0
 replace V1 := pw_cell_below hb10 V1
 replace G0 := pw_cell_below hb10 G0
 replace G1 := pw_cell_below hb10 G1
 replace HA := Aside0.mk (HA.out.below hb10)
 replace HF := Aside0.mk (HF.out.below hb10)
 replace HW := Aside0.mk (HW.out.below hb10)
 replace HGM := Aside0.mk (HGM.out.below hb10)
 replace HH := Aside0.mk (HH.out.below hb10)
 replace HBX := Aside0.mk (bthen HBX.out hb10)
 replace HB := Aside0.mk (bthen HB.out hb10)
 clear hb10
 go_wp2_with (first
  | (go_at_call 50; ((with_reducible refine (laws_eqSpine _ _ _ _ L F _ HH.out HW.out hbL).mono ?_); rintro e w' ⟨rfl, hb⟩; (try replace HA := Aside0.mk (HA.out.below hb)); (try replace HF := Aside0.mk (HF.out.below hb)); (try replace HW := Aside0.mk (HW.out.below hb)); (try replace HGM := Aside0.mk (HGM.out.below hb)); (try replace HH := Aside0.mk (HH.out.below hb)); (try replace B0 := pw_cell_below hb B0); (try replace B1 := pw_cell_below hb B1); (try replace V0 := pw_cell_below hb V0); (try replace V1 := pw_cell_below hb V1); (try replace G0 := pw_cell_below hb G0); (try replace G1 := pw_cell_below hb G1); (try replace Y0 := pw_cell_below hb Y0); (try replace Y1 := pw_cell_below hb Y1); (try replace HBX := Aside0.mk (bthen HBX.out hb)); (try replace H1 := Aside0.mk (H1.out.below hb)); (try replace H2 := Aside0.mk (H2.out.below hb)); replace HB := Aside0.mk (bthen HB.out hb); clear hb))
  | (go_at_call 54; ((with_reducible refine (laws_heldSpine _ _ L F _ HGM.out.s hbL).mono ?_); rintro e w' ⟨rfl, hb⟩; (try replace HA := Aside0.mk (HA.out.below hb)); (try replace HF := Aside0.mk (HF.out.below hb)); (try replace HW := Aside0.mk (HW.out.below hb)); (try replace HGM := Aside0.mk (HGM.out.below hb)); (try replace HH := Aside0.mk (HH.out.below hb)); (try replace B0 := pw_cell_below hb B0); (try replace B1 := pw_cell_below hb B1); (try replace V0 := pw_cell_below hb V0); (try replace V1 := pw_cell_below hb V1); (try replace G0 := pw_cell_below hb G0); (try replace G1 := pw_cell_below hb G1); (try replace Y0 := pw_cell_below hb Y0); (try replace Y1 := pw_cell_below hb Y1); (try replace HBX := Aside0.mk (bthen HBX.out hb)); (try replace H1 := Aside0.mk (H1.out.below hb)); (try replace H2 := Aside0.mk (H2.out.below hb)); replace HB := Aside0.mk (bthen HB.out hb); clear hb)))
 go_ret
 exact RetV.mk rfl HB.out
end Go.Proofs.Ytkdendlgaaimbaa.X
