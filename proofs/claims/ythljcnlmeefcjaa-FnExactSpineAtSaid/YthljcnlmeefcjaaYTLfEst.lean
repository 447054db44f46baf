/- The walk of the exact law on SpineAt. Conditions: none. -/
import Derived.Test.YthljcnlmeefcjaaYTHeldI
namespace Go.Proofs.Ythljcnlmeefcjaa.X
open Go.RowKit Go.Proofs.YthljcnlmeefcjaaW.PrintWords
set_option linter.unusedVariables false
set_option linter.unusedSimpArgs false

theorem spAt_len (ls : List (List Rw)) (f : List Tm) (t : Tm) : (spAt ls f t).length ≤ 400 := by
  unfold spAt
  split
  · rename_i h
    have hs := spineOk_iff.1 (by unfold spMay at h; simp only [Bool.and_eq_true] at h; exact h.1.1)
    have h1 : (present (flatL ls) t).length ≤ (flatL ls).length := Nat.le_trans (items_length _) (presentOf_len _ _)
    rw [flatL_len] at h1
    have := hs.rows
    omega
  · simp
set_option maxRecDepth 100000 in
set_option maxHeartbeats 4000000 in
theorem laws_FnExactSpineAt (u v : Value) (ls : List (List Rw)) (f : List Tm) (t0 t1 : Int) (w : World) (hu : Sl (Kd.slice 159 kRw) w u ls) (hv : Sl kTm w v f) : Calls Try.prog 9 #[.agg #[u, v], .agg #[.int .i64 t0, .int .i64 t1]] w (RetV w (.bool true)) := by
  obtain ⟨t, ht0⟩ : ∃ t : Tm, t = ⟨t0, t1⟩ := ⟨_, rfl⟩
  obtain ⟨rfl, rfl⟩ : t.f0 = t0 ∧ t.f1 = t1 := by rw [ht0]; exact ⟨rfl, rfl⟩
  clear ht0
  have HA := Aside0.mk (show SpL w u v ls f from ⟨hu, hv⟩)
  obtain ⟨A, c, rfl, hc, hr⟩ := hu
  obtain ⟨A2, c2, rfl, hc2, hr2⟩ := hv
  have him := inner_max hr
  obtain ⟨r, hrr, C1⟩ := laws_szSpine ls f 1048576 (by omega) (by omega) (Kd.C_max hr) him (Kd.C_max hr2)
  clear hr hr2
  have HB := Aside0.mk (Below.refl w.heap.size w)
  go_enter Try.func9, Try.ntmps9
  go_upto_region 2 with fail
  refine name_world fun W0 hW0 => ?_
  have hb0 : Below w.heap.size w W0 := hW0 ▸ below_alloc (below_alloc (Below.refl _ _) _) _
  have B0 : W0.cell? ⟨w.heap.size, 0, none⟩ = some (.slice A ls.length c) := by rw [hW0]; exact pw_cell_below (below_alloc (Below.refl _ _) _) (by simp)
  have B1 : W0.cell? ⟨w.heap.size, 1, none⟩ = some (.slice A2 f.length c2) := by rw [hW0]; exact pw_cell_below (below_alloc (Below.refl _ _) _) (by simp)
  obtain ⟨T, hT, hT2⟩ : ∃ T, T = w.heap.size + 1 ∧ T < W0.heap.size := ⟨_, rfl, by rw [hW0]; simp⟩
  have T0 : W0.cell? ⟨T, 0, none⟩ = some (.int .i64 t.f0) := by rw [hW0, hT]; simp
  have T1 : W0.cell? ⟨T, 1, none⟩ = some (.int .i64 t.f1) := by rw [hW0, hT]; simp
  try rw [← hT]
  clear hW0 hT
  replace HB := Aside0.mk hb0
  replace HA := Aside0.mk (HA.out.below hb0)
  clear hb0
  rcases hrr with rfl | ⟨r0, r1, hbs⟩
  · go_wp2_with (first
      | (go_at_call 39; ((with_reducible refine (C1 _ _ _ HA.out).mono ?_); rintro e w' ⟨rfl, hb⟩; (try replace HA := Aside0.mk (HA.out.below hb)); replace HB := Aside0.mk (bthen HB.out hb); clear hb)))
    go_ret
    exact RetV.mk rfl HB.out
  have hneg : decide (r < 0) = false := decide_eq_false (by omega)
  have hall := spAt_len ls f t
  have CS := fun x y W hx => spec_SpineAt x y ls f t W hx hbs
  have CI := fun x y W hx => impl_SpineAt x y ls f t W hx hbs
  generalize spAt ls f t = ts at *
  generalize spMay ls f t = may at *
  go_upto_region 5 with (first
    | (go_at_call 39; ((with_reducible refine (C1 _ _ _ HA.out).mono ?_); rintro e w' ⟨rfl, hb⟩; (try replace HA := Aside0.mk (HA.out.below hb)); (try replace B0 := pw_cell_below hb B0); (try replace B1 := pw_cell_below hb B1); (try replace T0 := pw_cell_below hb T0); (try replace T1 := pw_cell_below hb T1); replace HB := Aside0.mk (bthen HB.out hb); clear hb)))
  clear C1
  have dB0 := pw_cell_below (below_drew (Below.refl _ _)) B0
  have dB1 := pw_cell_below (below_drew (Below.refl _ _)) B1
  have dT0 := pw_cell_below (below_drew (Below.refl _ _)) T0
  have dT1 := pw_cell_below (below_drew (Below.refl _ _)) T1
  replace HA := Aside0.mk (HA.out.below (below_drew (Below.refl _ _)))
  replace HB := Aside0.mk (below_drew HB.out)
  go_region_held3 (fun w' => w'.cell? ⟨w.heap.size, 0, none⟩ = some (.slice A ls.length c) ∧ w'.cell? ⟨w.heap.size, 1, none⟩ = some (.slice A2 f.length c2) ∧ w'.cell? ⟨T, 0, none⟩ = some (.int .i64 t.f0) ∧ w'.cell? ⟨T, 1, none⟩ = some (.int .i64 t.f1)) (first | exact ⟨B0, B1, T0, T1⟩ | exact ⟨dB0, dB1, dT0, dT1⟩)
    (first
    | (go_at_call 42; ((with_reducible refine (laws_toSpine _ _ ls f _ HA.out hbs).mono ?_); rintro e w' ⟨xa, xb, rfl, hr, hb⟩; (try replace HA := Aside0.mk (HA.out.below hb)); (try replace HGO := Aside0.mk (Kd.R_below HGO.out hb)); (try replace HBX := Aside0.mk (bthen HBX.out hb)); (try replace H1 := Aside0.mk (H1.out.below hb)); replace dB0 := pw_cell_below hb dB0; replace dB1 := pw_cell_below hb dB1; replace dT0 := pw_cell_below hb dT0; replace dT1 := pw_cell_below hb dT1; replace HB := Aside0.mk (bthen HB.out hb); have H1 := Aside0.mk hr.s; clear hr hb))
    | (go_at_call 64; ((with_reducible refine (laws_toTime t.f0 t.f1 _).mono ?_); rintro e w' ⟨rfl, hb⟩; (try replace HA := Aside0.mk (HA.out.below hb)); (try replace HGO := Aside0.mk (Kd.R_below HGO.out hb)); (try replace HBX := Aside0.mk (bthen HBX.out hb)); (try replace H1 := Aside0.mk (H1.out.below hb)); replace dB0 := pw_cell_below hb dB0; replace dB1 := pw_cell_below hb dB1; replace dT0 := pw_cell_below hb dT0; replace dT1 := pw_cell_below hb dT1; replace HB := Aside0.mk (bthen HB.out hb); clear hb))
    | (go_at_call 63; ((with_reducible refine (CS _ _ _ H1.out).mono ?_); rintro e w' ⟨vw, rfl, hr, hb⟩; (try replace HA := Aside0.mk (HA.out.below hb)); (try replace HGO := Aside0.mk (Kd.R_below HGO.out hb)); (try replace HBX := Aside0.mk (bthen HBX.out hb)); (try replace H1 := Aside0.mk (H1.out.below hb)); replace dB0 := pw_cell_below hb dB0; replace dB1 := pw_cell_below hb dB1; replace dT0 := pw_cell_below hb dT0; replace dT1 := pw_cell_below hb dT1; replace HB := Aside0.mk (bthen HB.out hb); have HW := Aside0.mk (Sl.of_R hr); clear hr hb)))
  clear B0 B1 T0 T1
  have B0 := dB0
  have B1 := dB1
  have T0 := dT0
  have T1 := dT1
  clear dB0 dB1 dT0 dT1
  clear H1
  rename World => Wx
  have HA0 := HA
  have HW0 := HW
  have HBW0 := HB
  have B00 := B0
  have B10 := B1
  have T00 := T0
  have T10 := T1
  go_upto_region 7 with (go_at_call 42; ((with_reducible refine (laws_toSpine _ _ ls f _ HA.out hbs).mono ?_); rintro e w2 ⟨xa, xb, rfl, hr, hb⟩; obtain ⟨P0, P1, hsp, hap, hbd⟩ := hr.split; have HXW := Aside0.mk hsp; have HBX := Aside0.mk hb; obtain ⟨A7, c7, rfl⟩ := Kd.S_slice hsp.1; obtain ⟨A8, c8, rfl⟩ := Kd.R_slice hsp.2; replace B0 := pw_cell_below hb B0; replace B1 := pw_cell_below hb B1; replace T0 := pw_cell_below hb T0; replace T1 := pw_cell_below hb T1; replace HA := Aside0.mk (HA.out.below hb); replace HW := Aside0.mk (HW.out.below hb); replace HB := Aside0.mk (bthen HB.out hb); clear hr hb hsp))
  refine name_world fun W1 hW1 => ?_
  have hb1 : Below w2.heap.size w2 W1 := hW1 ▸ below_alloc (Below.refl _ _) _
  have X0 : W1.cell? ⟨w2.heap.size, 0, none⟩ = some (.slice A7 ls.length c7) := by rw [hW1]; simp
  have X1 : W1.cell? ⟨w2.heap.size, 1, none⟩ = some (.slice A8 f.length c8) := by rw [hW1]; simp
  have hsz : w2.heap.size < W1.heap.size := by rw [hW1]; simp
  clear hW1
  replace B0 := pw_cell_below hb1 B0
  replace B1 := pw_cell_below hb1 B1
  replace T0 := pw_cell_below hb1 T0
  replace T1 := pw_cell_below hb1 T1
  replace HA := Aside0.mk (HA.out.below hb1)
  replace HW := Aside0.mk (HW.out.below hb1)
  replace HB := Aside0.mk (bthen HB.out hb1)
  replace HXW := Aside0.mk (HXW.out.below hb1)
  replace HBX := Aside0.mk (bthen HBX.out hb1)
  clear hb1
  obtain ⟨N, hN⟩ : ∃ N, N = w2.heap.size := ⟨_, rfl⟩
  rw [← hN] at X0 X1 hsz hbd ⊢
  clear hN
  have HBD := Aside0.mk hbd
  have HAP := Aside0.mk hap
  have HSZ := Aside0.mk hsz
  clear hbd hap hsz
  have HW1 := Aside0.mk HBX.out.size
  have dB0 := pw_cell_below (below_drew (Below.refl _ _)) B0
  have dB1 := pw_cell_below (below_drew (Below.refl _ _)) B1
  have dT0 := pw_cell_below (below_drew (Below.refl _ _)) T0
  have dT1 := pw_cell_below (below_drew (Below.refl _ _)) T1
  have dX0 := pw_cell_below (below_drew (Below.refl _ _)) X0
  have dX1 := pw_cell_below (below_drew (Below.refl _ _)) X1
  replace HA := Aside0.mk (HA.out.below (below_drew (Below.refl _ _)))
  replace HW := Aside0.mk (HW.out.below (below_drew (Below.refl _ _)))
  replace HXW := Aside0.mk (HXW.out.below (below_drew (Below.refl _ _)))
  replace HBX := Aside0.mk (below_drew HBX.out)
  replace HB := Aside0.mk (below_drew HB.out)
  have HLE := Aside0.mk (Nat.le_refl W1.heap.size)
  go_region_held3 (fun w' => w'.cell? ⟨w.heap.size, 0, none⟩ = some (.slice A ls.length c) ∧ w'.cell? ⟨w.heap.size, 1, none⟩ = some (.slice A2 f.length c2) ∧ w'.cell? ⟨T, 0, none⟩ = some (.int .i64 t.f0) ∧ w'.cell? ⟨T, 1, none⟩ = some (.int .i64 t.f1) ∧ w'.cell? ⟨N, 0, none⟩ = some (.slice A7 ls.length c7) ∧ w'.cell? ⟨N, 1, none⟩ = some (.slice A8 f.length c8)) (first | exact ⟨B0, B1, T0, T1, X0, X1⟩ | exact ⟨dB0, dB1, dT0, dT1, dX0, dX1⟩)
    (first
    | (go_at_call 64; ((with_reducible refine (laws_toTime t.f0 t.f1 _).mono ?_); rintro e w' ⟨rfl, hb⟩; (try replace HA := Aside0.mk (HA.out.below hb)); (try replace HW := Aside0.mk (HW.out.below hb)); (try replace HXW := Aside0.mk (HXW.out.below hb)); (try replace HLE := Aside0.mk (Nat.le_trans HLE.out hb.size)); (try replace HGO := Aside0.mk (Kd.R_below HGO.out hb)); (try replace HBX := Aside0.mk (bthen HBX.out hb)); (try replace H1 := Aside0.mk (H1.out.below hb)); replace dB0 := pw_cell_below hb dB0; replace dB1 := pw_cell_below hb dB1; replace dT0 := pw_cell_below hb dT0; replace dT1 := pw_cell_below hb dT1; replace dX0 := pw_cell_below hb dX0; replace dX1 := pw_cell_below hb dX1; replace HB := Aside0.mk (bthen HB.out hb); clear hb))
    | (go_at_call 65; ((with_reducible refine (CI _ _ _ HXW.out.s).mono ?_); rintro e w' ⟨vg, rfl, hr, hb⟩; have HGO := Aside0.mk (Kd.R_lower (Kd.R_mono (Kd.R_bound hr) (ok' := fun q => N < q) (fun q hq => Nat.lt_of_lt_of_le HSZ.out (Nat.le_trans HLE.out hq.2.1))) HBX.out.size); (try replace HA := Aside0.mk (HA.out.below hb)); (try replace HW := Aside0.mk (HW.out.below hb)); (try replace HXW := Aside0.mk (HXW.out.below hb)); (try replace HLE := Aside0.mk (Nat.le_trans HLE.out hb.size)); (try replace HGO := Aside0.mk (Kd.R_below HGO.out hb)); (try replace HBX := Aside0.mk (bthen HBX.out hb)); (try replace H1 := Aside0.mk (H1.out.below hb)); replace dB0 := pw_cell_below hb dB0; replace dB1 := pw_cell_below hb dB1; replace dT0 := pw_cell_below hb dT0; replace dT1 := pw_cell_below hb dT1; replace dX0 := pw_cell_below hb dX0; replace dX1 := pw_cell_below hb dX1; replace HB := Aside0.mk (bthen HB.out hb); clear hr hb)))
  clear B0 B1 T0 T1 X0 X1
  have B0 := dB0
  have B1 := dB1
  have T0 := dT0
  have T1 := dT1
  have X0 := dX0
  have X1 := dX1
  clear dB0 dB1 dT0 dT1 dX0 dX1
  have qm : (may != may) = false := by cases may <;> rfl
  go_upto_region 10 with (first
    | (go_at_call 66; ((with_reducible refine (laws_eqItemS vg vw ts _ (Sl.of_R HGO.out) HW.out (by omega)).mono ?_); rintro e w' ⟨rfl, hb⟩; (try replace HA := Aside0.mk (HA.out.below hb)); (try replace HW := Aside0.mk (HW.out.below hb)); (try replace HXW := Aside0.mk (HXW.out.below hb)); (try replace B0 := pw_cell_below hb B0); (try replace B1 := pw_cell_below hb B1); (try replace T0 := pw_cell_below hb T0); (try replace T1 := pw_cell_below hb T1); (try replace X0 := pw_cell_below hb X0); (try replace X1 := pw_cell_below hb X1); (try replace HGO := Aside0.mk (Kd.R_below HGO.out hb)); (try replace HBX := Aside0.mk (bthen HBX.out hb)); (try replace H1 := Aside0.mk (H1.out.below hb)); replace HB := Aside0.mk (bthen HB.out hb); clear hb)))
  have dB0 := pw_cell_below (below_drew (Below.refl _ _)) B0
  have dB1 := pw_cell_below (below_drew (Below.refl _ _)) B1
  have dT0 := pw_cell_below (below_drew (Below.refl _ _)) T0
  have dT1 := pw_cell_below (below_drew (Below.refl _ _)) T1
  have dX0 := pw_cell_below (below_drew (Below.refl _ _)) X0
  have dX1 := pw_cell_below (below_drew (Below.refl _ _)) X1
  replace HA := Aside0.mk (HA.out.below (below_drew (Below.refl _ _)))
  replace HW := Aside0.mk (HW.out.below (below_drew (Below.refl _ _)))
  replace HXW := Aside0.mk (HXW.out.below (below_drew (Below.refl _ _)))
  replace HGO := Aside0.mk (Kd.R_below HGO.out (below_drew (Below.refl _ _)))
  replace HBX := Aside0.mk (below_drew HBX.out)
  replace HB := Aside0.mk (below_drew HB.out)
  go_region_held3 (fun w' => w'.cell? ⟨w.heap.size, 0, none⟩ = some (.slice A ls.length c) ∧ w'.cell? ⟨w.heap.size, 1, none⟩ = some (.slice A2 f.length c2) ∧ w'.cell? ⟨T, 0, none⟩ = some (.int .i64 t.f0) ∧ w'.cell? ⟨T, 1, none⟩ = some (.int .i64 t.f1) ∧ w'.cell? ⟨N, 0, none⟩ = some (.slice A7 ls.length c7) ∧ w'.cell? ⟨N, 1, none⟩ = some (.slice A8 f.length c8)) (first | exact ⟨B0, B1, T0, T1, X0, X1⟩ | exact ⟨dB0, dB1, dT0, dT1, dX0, dX1⟩)
    (first
    | (go_at_call 42; ((with_reducible refine (laws_toSpine _ _ ls f _ HA.out hbs).mono ?_); rintro e w' ⟨xa2, xb2, rfl, hr, hb⟩; (try replace HA := Aside0.mk (HA.out.below hb)); (try replace HW := Aside0.mk (HW.out.below hb)); (try replace HXW := Aside0.mk (HXW.out.below hb)); (try replace HGO := Aside0.mk (Kd.R_below HGO.out hb)); (try replace HBX := Aside0.mk (bthen HBX.out hb)); (try replace H1 := Aside0.mk (H1.out.below hb)); replace dB0 := pw_cell_below hb dB0; replace dB1 := pw_cell_below hb dB1; replace dT0 := pw_cell_below hb dT0; replace dT1 := pw_cell_below hb dT1; replace dX0 := pw_cell_below hb dX0; replace dX1 := pw_cell_below hb dX1; replace HB := Aside0.mk (bthen HB.out hb); have H1 := Aside0.mk hr.s; clear hr hb))
    | (go_at_call 44; ((with_reducible refine (laws_eqSpine _ _ _ _ ls f _ HXW.out.s H1.out hbs).mono ?_); rintro e w' ⟨rfl, hb⟩; (try replace HA := Aside0.mk (HA.out.below hb)); (try replace HW := Aside0.mk (HW.out.below hb)); (try replace HXW := Aside0.mk (HXW.out.below hb)); (try replace HGO := Aside0.mk (Kd.R_below HGO.out hb)); (try replace HBX := Aside0.mk (bthen HBX.out hb)); (try replace H1 := Aside0.mk (H1.out.below hb)); replace dB0 := pw_cell_below hb dB0; replace dB1 := pw_cell_below hb dB1; replace dT0 := pw_cell_below hb dT0; replace dT1 := pw_cell_below hb dT1; replace dX0 := pw_cell_below hb dX0; replace dX1 := pw_cell_below hb dX1; replace HB := Aside0.mk (bthen HB.out hb); clear hb)))
  clear B0 B1 T0 T1 X0 X1
  have B0 := dB0
  have B1 := dB1
  have T0 := dT0
  have T1 := dT1
  have X0 := dX0
  have X1 := dX1
  clear dB0 dB1 dT0 dT1 dX0 dX1
  clear H1 X0 X1 B0 B1 T0 T1
  have hk0 : ¬ (1 + 5 * (many ls : Int) + 2 * (f.length : Int) < 0) := by omega
  clear HA HW HB
  go_upto_region 14 with (go_at_call 46; ((with_reducible refine (laws_markSpineW P0 P1 _ _ ls f Wx _ HBX.out HXW.out HAP.out hbs).mono ?_); rintro e w4 ⟨rfl, hr, hb, hk⟩; replace HGO := Aside0.mk (Kd.R_kept HGO.out hk (fun q hq hs => by have h1 := (HBD.out q hs).2; have h2 : N < q := hq; omega)); have HA := Aside0.mk (HA0.out.below hb); have HW := Aside0.mk (HW0.out.below hb); have B0 := pw_cell_below hb B00; have B1 := pw_cell_below hb B10; have T0 := pw_cell_below hb T00; have T1 := pw_cell_below hb T10; replace HBX := Aside0.mk hb; have HB := Aside0.mk (bthen HBW0.out hb); clear hr hb hk HXW))
  go_upto_region 17 with (first
    | (go_at_call 66; ((with_reducible refine (laws_eqItemS vg vw ts _ (Sl.of_R HGO.out) HW.out (by omega)).mono ?_); rintro e w' ⟨rfl, hb⟩; (try replace HA := Aside0.mk (HA.out.below hb)); (try replace HW := Aside0.mk (HW.out.below hb)); (try replace B0 := pw_cell_below hb B0); (try replace B1 := pw_cell_below hb B1); (try replace T0 := pw_cell_below hb T0); (try replace T1 := pw_cell_below hb T1); (try replace HGO := Aside0.mk (Kd.R_below HGO.out hb)); (try replace HBX := Aside0.mk (bthen HBX.out hb)); (try replace H1 := Aside0.mk (H1.out.below hb)); replace HB := Aside0.mk (bthen HB.out hb); clear hb)))
  clear HB HA HW B0 B1 T0 T1
  go_upto_region 18 with (go_at_call 67; ((with_reducible refine (laws_markItemS (fun q => N < q) vg ts 1 Wx _ HBX.out HGO.out (by omega) (by omega)).mono ?_); rintro e w5 ⟨rfl, hr, hb, hk⟩; replace HGO := Aside0.mk hr; have HA := Aside0.mk (HA0.out.below hb); have HW := Aside0.mk (HW0.out.below hb); have B0 := pw_cell_below hb B00; have B1 := pw_cell_below hb B10; have T0 := pw_cell_below hb T00; have T1 := pw_cell_below hb T10; replace HBX := Aside0.mk hb; have HB := Aside0.mk (bthen HBW0.out hb); clear hr hb hk))
  have hm1 : ¬ (1 + 3 * (ts.length : Int) < 0) := by omega
  have HML := Aside0.mk (marksI_len 1 ts.length)
  have HD0 : ∀ W, Sl kIt W vg (marksI 1 ts.length) → Calls Try.prog 68 #[vg, .int .i64 1] W (RetV W (.int .i64 (1 + 3 * (ts.length : Int)))) := fun W h => laws_heldItemS vg ts.length W h (by omega)
  generalize marksI 1 ts.length = ms at *
  go_upto_region 24 with (first
    | (go_at_call 68; ((with_reducible refine (HD0 _ (Sl.of_R HGO.out)).mono ?_); rintro e w' ⟨rfl, hb⟩; (try replace HA := Aside0.mk (HA.out.below hb)); (try replace HW := Aside0.mk (HW.out.below hb)); (try replace B0 := pw_cell_below hb B0); (try replace B1 := pw_cell_below hb B1); (try replace T0 := pw_cell_below hb T0); (try replace T1 := pw_cell_below hb T1); (try replace HGO := Aside0.mk (Kd.R_below HGO.out hb)); (try replace HBX := Aside0.mk (bthen HBX.out hb)); (try replace H1 := Aside0.mk (H1.out.below hb)); replace HB := Aside0.mk (bthen HB.out hb); clear hb)))
  have dB0 := pw_cell_below (below_drew (Below.refl _ _)) B0
  have dB1 := pw_cell_below (below_drew (Below.refl _ _)) B1
  have dT0 := pw_cell_below (below_drew (Below.refl _ _)) T0
  have dT1 := pw_cell_below (below_drew (Below.refl _ _)) T1
  replace HA := Aside0.mk (HA.out.below (below_drew (Below.refl _ _)))
  replace HW := Aside0.mk (HW.out.below (below_drew (Below.refl _ _)))
  replace HGO := Aside0.mk (Kd.R_below HGO.out (below_drew (Below.refl _ _)))
  replace HBX := Aside0.mk (below_drew HBX.out)
  replace HB := Aside0.mk (below_drew HB.out)
  go_region_held3 (fun w' => w'.cell? ⟨w.heap.size, 0, none⟩ = some (.slice A ls.length c) ∧ w'.cell? ⟨w.heap.size, 1, none⟩ = some (.slice A2 f.length c2) ∧ w'.cell? ⟨T, 0, none⟩ = some (.int .i64 t.f0) ∧ w'.cell? ⟨T, 1, none⟩ = some (.int .i64 t.f1)) (first | exact ⟨B0, B1, T0, T1⟩ | exact ⟨dB0, dB1, dT0, dT1⟩)
    (first
    | (go_at_call 42; ((with_reducible refine (laws_toSpine _ _ ls f _ HA.out hbs).mono ?_); rintro e w' ⟨xa3, xb3, rfl, hr, hb⟩; (try replace HA := Aside0.mk (HA.out.below hb)); (try replace HW := Aside0.mk (HW.out.below hb)); (try replace HGO := Aside0.mk (Kd.R_below HGO.out hb)); (try replace HBX := Aside0.mk (bthen HBX.out hb)); (try replace H1 := Aside0.mk (H1.out.below hb)); replace dB0 := pw_cell_below hb dB0; replace dB1 := pw_cell_below hb dB1; replace dT0 := pw_cell_below hb dT0; replace dT1 := pw_cell_below hb dT1; replace HB := Aside0.mk (bthen HB.out hb); have H1 := Aside0.mk hr.s; clear hr hb))
    | (go_at_call 64; ((with_reducible refine (laws_toTime t.f0 t.f1 _).mono ?_); rintro e w' ⟨rfl, hb⟩; (try replace HA := Aside0.mk (HA.out.below hb)); (try replace HW := Aside0.mk (HW.out.below hb)); (try replace HGO := Aside0.mk (Kd.R_below HGO.out hb)); (try replace HBX := Aside0.mk (bthen HBX.out hb)); (try replace H1 := Aside0.mk (H1.out.below hb)); replace dB0 := pw_cell_below hb dB0; replace dB1 := pw_cell_below hb dB1; replace dT0 := pw_cell_below hb dT0; replace dT1 := pw_cell_below hb dT1; replace HB := Aside0.mk (bthen HB.out hb); clear hb))
    | (go_at_call 65; ((with_reducible refine (CI _ _ _ H1.out).mono ?_); rintro e w' ⟨vh, rfl, hr, hb⟩; (try replace HA := Aside0.mk (HA.out.below hb)); (try replace HW := Aside0.mk (HW.out.below hb)); (try replace HGO := Aside0.mk (Kd.R_below HGO.out hb)); (try replace HBX := Aside0.mk (bthen HBX.out hb)); (try replace H1 := Aside0.mk (H1.out.below hb)); replace dB0 := pw_cell_below hb dB0; replace dB1 := pw_cell_below hb dB1; replace dT0 := pw_cell_below hb dT0; replace dT1 := pw_cell_below hb dT1; replace HB := Aside0.mk (bthen HB.out hb); have H6 := Aside0.mk (Sl.of_R hr); clear hr hb)))
  clear B0 B1 T0 T1
  have B0 := dB0
  have B1 := dB1
  have T0 := dT0
  have T1 := dT1
  clear dB0 dB1 dT0 dT1
  clear H1
  go_wp2_with (first
    | (go_at_call 66; ((with_reducible refine (laws_eqItemS vh vw ts _ H6.out HW.out (by omega)).mono ?_); rintro e w' ⟨rfl, hb⟩; (try replace HA := Aside0.mk (HA.out.below hb)); (try replace HW := Aside0.mk (HW.out.below hb)); (try replace H6 := Aside0.mk (H6.out.below hb)); (try replace HGO := Aside0.mk (Kd.R_below HGO.out hb)); (try replace HBX := Aside0.mk (bthen HBX.out hb)); (try replace H1 := Aside0.mk (H1.out.below hb)); replace HB := Aside0.mk (bthen HB.out hb); clear hb))
    | (go_at_call 68; ((with_reducible refine (HD0 _ (Sl.of_R HGO.out)).mono ?_); rintro e w' ⟨rfl, hb⟩; (try replace HA := Aside0.mk (HA.out.below hb)); (try replace HW := Aside0.mk (HW.out.below hb)); (try replace H6 := Aside0.mk (H6.out.below hb)); (try replace HGO := Aside0.mk (Kd.R_below HGO.out hb)); (try replace HBX := Aside0.mk (bthen HBX.out hb)); (try replace H1 := Aside0.mk (H1.out.below hb)); replace HB := Aside0.mk (bthen HB.out hb); clear hb)))
  go_ret
  exact RetV.mk rfl HB.out
end Go.Proofs.Ythljcnlmeefcjaa.X

