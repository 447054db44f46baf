/- The walk of the exact law on SpineAll. Conditions: none. -/
import Derived.Test.YthljcnlmeefcjaaYTSpX
import Derived.Test.YthljcnlmeefcjaaYTHeldR
namespace Go.Proofs.Ythljcnlmeefcjaa.X
open Go.RowKit Go.Proofs.YthljcnlmeefcjaaW.PrintWords
set_option linter.unusedVariables false
set_option linter.unusedSimpArgs false

theorem spAll_ok (ls : List (List Rw)) (f : List Tm) : batchOk (spAll ls f) = true := by
  unfold spAll
  split
  · unfold fit
    split
    · assumption
    · rfl
  · rfl
set_option maxRecDepth 100000 in
set_option maxHeartbeats 4000000 in
theorem laws_FnExactSpineAll (u v : Value) (ls : List (List Rw)) (f : List Tm) (w : World) (hu : Sl (Kd.slice 159 kRw) w u ls) (hv : Sl kTm w v f) : Calls Try.prog 7 #[.agg #[u, v]] w (RetV w (.bool true)) := by
  have HA := Aside0.mk (show SpL w u v ls f from ⟨hu, hv⟩)
  obtain ⟨A, c, rfl, hc, hr⟩ := hu
  obtain ⟨A2, c2, rfl, hc2, hr2⟩ := hv
  have him := inner_max hr
  obtain ⟨r, hrr, C1⟩ := laws_szSpine ls f 1048576 (by omega) (by omega) (Kd.C_max hr) him (Kd.C_max hr2)
  clear hr hr2
  have HB := Aside0.mk (Below.refl w.heap.size w)
  go_enter Try.func7, Try.ntmps7
  go_upto_region 2 with fail
  refine name_world fun W0 hW0 => ?_
  have hb0 : Below w.heap.size w W0 := hW0 ▸ below_alloc (Below.refl _ _) _
  have B0 : W0.cell? ⟨w.heap.size, 0, none⟩ = some (.slice A ls.length c) := by rw [hW0]; simp
  have B1 : W0.cell? ⟨w.heap.size, 1, none⟩ = some (.slice A2 f.length c2) := by rw [hW0]; simp
  clear hW0
  replace HB := Aside0.mk hb0
  replace HA := Aside0.mk (HA.out.below hb0)
  clear hb0
  rcases hrr with rfl | ⟨r0, r1, hbs⟩
  · go_wp2_with (first
      | (go_at_call 39; ((with_reducible refine (C1 _ _ _ HA.out).mono ?_); rintro e w' ⟨rfl, hb⟩; (try replace HA := Aside0.mk (HA.out.below hb)); replace HB := Aside0.mk (bthen HB.out hb); clear hb)))
    go_ret
    exact RetV.mk rfl HB.out
  have hneg : decide (r < 0) = false := decide_eq_false (by omega)
  have hall := batchOk_len (spAll_ok ls f)
  obtain ⟨ts, hts0⟩ : ∃ ts, ts = spAll ls f := ⟨_, rfl⟩
  have HTS := Aside0.mk hts0
  rw [← hts0] at hall
  clear hts0
  have q0 : eqRwS ts ts = true := (eqRwS_iff ts ts).2 rfl
  have CS := fun x y W hx => HTS.out ▸ spec_SpineAll x y ls f W hx hbs
  have CI := fun x y W hx => HTS.out ▸ impl_SpineAll x y ls f W hx hbs
  go_upto_region 6 with (first
    | (go_at_call 39; ((with_reducible refine (C1 _ _ _ HA.out).mono ?_); rintro e w' ⟨rfl, hb⟩; (try replace HA := Aside0.mk (HA.out.below hb)); (try replace HW := Aside0.mk (HW.out.below hb)); (try replace B0 := pw_cell_below hb B0); (try replace B1 := pw_cell_below hb B1); replace HB := Aside0.mk (bthen HB.out hb); clear hb))
    | (go_at_call 42; ((with_reducible refine (laws_toSpine _ _ ls f _ HA.out hbs).mono ?_); rintro e w' ⟨xa, xb, rfl, hr, hb⟩; (try replace HA := Aside0.mk (HA.out.below hb)); (try replace HW := Aside0.mk (HW.out.below hb)); (try replace B0 := pw_cell_below hb B0); (try replace B1 := pw_cell_below hb B1); replace HB := Aside0.mk (bthen HB.out hb); have H1 := Aside0.mk hr.s; clear hr hb))
    | (go_at_call 50; ((with_reducible refine (CS xa xb _ H1.out).mono ?_); rintro e w' ⟨vw, rfl, hr, hb⟩; (try replace HA := Aside0.mk (HA.out.below hb)); (try replace HW := Aside0.mk (HW.out.below hb)); (try replace B0 := pw_cell_below hb B0); (try replace B1 := pw_cell_below hb B1); replace HB := Aside0.mk (bthen HB.out hb); have HW := Aside0.mk (Sl.of_R hr); clear hr hb)))
  clear H1 C1
  rename World => Wx
  have HA0 := HA
  have HW0 := HW
  have HBW0 := HB
  have B00 := B0
  have B10 := B1
  go_upto_region 7 with (go_at_call 42; ((with_reducible refine (laws_toSpine _ _ ls f _ HA.out hbs).mono ?_); rintro e w2 ⟨xa, xb, rfl, hr, hb⟩; obtain ⟨P0, P1, hsp, hap, hbd⟩ := hr.split; have HXW := Aside0.mk hsp; have HBX := Aside0.mk hb; obtain ⟨A7, c7, rfl⟩ := Kd.S_slice hsp.1; obtain ⟨A8, c8, rfl⟩ := Kd.R_slice hsp.2; replace B0 := pw_cell_below hb B0; replace B1 := pw_cell_below hb B1; replace HA := Aside0.mk (HA.out.below hb); replace HW := Aside0.mk (HW.out.below hb); replace HB := Aside0.mk (bthen HB.out hb); clear hr hb hsp))
  refine name_world fun W1 hW1 => ?_
  have hb1 : Below w2.heap.size w2 W1 := hW1 ▸ below_alloc (Below.refl _ _) _
  have X0 : W1.cell? ⟨w2.heap.size, 0, none⟩ = some (.slice A7 ls.length c7) := by rw [hW1]; simp
  have X1 : W1.cell? ⟨w2.heap.size, 1, none⟩ = some (.slice A8 f.length c8) := by rw [hW1]; simp
  have hsz : w2.heap.size < W1.heap.size := by rw [hW1]; simp
  clear hW1
  replace B0 := pw_cell_below hb1 B0
  replace B1 := pw_cell_below hb1 B1
  replace HA := Aside0.mk (HA.out.below hb1)
  replace HW := Aside0.mk (HW.out.below hb1)
  replace HB := Aside0.mk (bthen HB.out hb1)
  replace HXW := Aside0.mk (HXW.out.below hb1)
  replace HBX := Aside0.mk (bthen HBX.out hb1)
  clear hb1
  obtain ⟨N, hN⟩ : ∃ N, N = w2.heap.size := ⟨_, rfl⟩
  rw [← hN] at X0 X1 hsz hbd ⊢
  clear hN
  have HBD := Aside0.mk hbd
  have HAP := Aside0.mk hap
  have HSZ := Aside0.mk hsz
  clear hbd hap hsz
  go_upto_region 8 with (go_at_call 51; ((with_reducible refine (CI _ _ _ HXW.out.s).mono ?_); rintro e w3 ⟨vg, rfl, hr, hb⟩; have HGO := Aside0.mk (Kd.R_lower (Kd.R_mono (Kd.R_bound hr) (ok' := fun q => N < q) (fun q hq => Nat.lt_of_lt_of_le HSZ.out hq.2.1)) HBX.out.size); replace HXW := Aside0.mk (HXW.out.below hb); replace HA := Aside0.mk (HA.out.below hb); replace HW := Aside0.mk (HW.out.below hb); replace B0 := pw_cell_below hb B0; replace B1 := pw_cell_below hb B1; replace X0 := pw_cell_below hb X0; replace X1 := pw_cell_below hb X1; replace HBX := Aside0.mk (bthen HBX.out hb); replace HB := Aside0.mk (bthen HB.out hb); clear hr hb))
  go_upto_region 10 with (first
    | (go_at_call 52; ((with_reducible refine (laws_eqRowS vg vw ts ts _ (Sl.of_R HGO.out) HW.out).mono ?_); rintro e w' ⟨rfl, hb⟩; (try replace HA := Aside0.mk (HA.out.below hb)); (try replace HW := Aside0.mk (HW.out.below hb)); (try replace HXW := Aside0.mk (HXW.out.below hb)); (try replace B0 := pw_cell_below hb B0); (try replace B1 := pw_cell_below hb B1); (try replace X0 := pw_cell_below hb X0); (try replace X1 := pw_cell_below hb X1); (try replace HGO := Aside0.mk (Kd.R_below HGO.out hb)); (try replace HBX := Aside0.mk (bthen HBX.out hb)); replace HB := Aside0.mk (bthen HB.out hb); clear hb)))
  have d0 := pw_cell_below (below_drew (Below.refl _ _)) X0
  have d1 := pw_cell_below (below_drew (Below.refl _ _)) X1
  have d2 := pw_cell_below (below_drew (Below.refl _ _)) B0
  have d3 := pw_cell_below (below_drew (Below.refl _ _)) B1
  replace HA := Aside0.mk (HA.out.below (below_drew (Below.refl _ _)))
  replace HW := Aside0.mk (HW.out.below (below_drew (Below.refl _ _)))
  replace HXW := Aside0.mk (HXW.out.below (below_drew (Below.refl _ _)))
  replace HGO := Aside0.mk (Kd.R_below HGO.out (below_drew (Below.refl _ _)))
  replace HBX := Aside0.mk (below_drew HBX.out)
  replace HB := Aside0.mk (below_drew HB.out)
  go_region_held3 (fun w' => w'.cell? ⟨N, 0, none⟩ = some (.slice A7 ls.length c7) ∧ w'.cell? ⟨N, 1, none⟩ = some (.slice A8 f.length c8) ∧ w'.cell? ⟨w.heap.size, 0, none⟩ = some (.slice A ls.length c) ∧ w'.cell? ⟨w.heap.size, 1, none⟩ = some (.slice A2 f.length c2)) (first | exact ⟨X0, X1, B0, B1⟩ | exact ⟨d0, d1, d2, d3⟩)
    (first
    | (go_at_call 42; ((with_reducible refine (laws_toSpine _ _ ls f _ HA.out hbs).mono ?_); rintro e w' ⟨xa2, xb2, rfl, hr, hb⟩; (try replace HA := Aside0.mk (HA.out.below hb)); (try replace HW := Aside0.mk (HW.out.below hb)); (try replace HXW := Aside0.mk (HXW.out.below hb)); (try replace HGO := Aside0.mk (Kd.R_below HGO.out hb)); (try replace HBX := Aside0.mk (bthen HBX.out hb)); replace d0 := pw_cell_below hb d0; replace d1 := pw_cell_below hb d1; replace d2 := pw_cell_below hb d2; replace d3 := pw_cell_below hb d3; replace HB := Aside0.mk (bthen HB.out hb); have H1 := Aside0.mk hr.s; clear hr hb))
    | (go_at_call 44; ((with_reducible refine (laws_eqSpine _ _ _ _ ls f _ HXW.out.s H1.out hbs).mono ?_); rintro e w' ⟨rfl, hb⟩; (try replace HA := Aside0.mk (HA.out.below hb)); (try replace HW := Aside0.mk (HW.out.below hb)); (try replace HXW := Aside0.mk (HXW.out.below hb)); (try replace HGO := Aside0.mk (Kd.R_below HGO.out hb)); (try replace HBX := Aside0.mk (bthen HBX.out hb)); replace d0 := pw_cell_below hb d0; replace d1 := pw_cell_below hb d1; replace d2 := pw_cell_below hb d2; replace d3 := pw_cell_below hb d3; replace HB := Aside0.mk (bthen HB.out hb); clear hb)))
  clear X0 X1 B0 B1 H1
  have hk0 : ¬ (1 + 5 * (many ls : Int) + 2 * (f.length : Int) < 0) := by omega
  clear HA HW HB
  go_upto_region 14 with (go_at_call 46; ((with_reducible refine (laws_markSpineW P0 P1 _ _ ls f Wx _ HBX.out HXW.out HAP.out hbs).mono ?_); rintro e w4 ⟨rfl, hr, hb, hk⟩; replace HGO := Aside0.mk (Kd.R_kept HGO.out hk (fun q hq hs => by have h1 := (HBD.out q hs).2; have h2 : N < q := hq; omega)); have HA := Aside0.mk (HA0.out.below hb); have HW := Aside0.mk (HW0.out.below hb); have B0 := pw_cell_below hb B00; have B1 := pw_cell_below hb B10; replace HBX := Aside0.mk hb; have HB := Aside0.mk (bthen HBW0.out hb); clear hr hb hk HXW d0 d1 d2 d3))
  go_upto_region 17 with (first
    | (go_at_call 52; ((with_reducible refine (laws_eqRowS vg vw ts ts _ (Sl.of_R HGO.out) HW.out).mono ?_); rintro e w' ⟨rfl, hb⟩; (try replace HA := Aside0.mk (HA.out.below hb)); (try replace HW := Aside0.mk (HW.out.below hb)); (try replace B0 := pw_cell_below hb B0); (try replace B1 := pw_cell_below hb B1); (try replace HGO := Aside0.mk (Kd.R_below HGO.out hb)); (try replace HBX := Aside0.mk (bthen HBX.out hb)); replace HB := Aside0.mk (bthen HB.out hb); clear hb)))
  clear HB HA HW B0 B1
  have hm1 : ¬ (1 + 5 * (ts.length : Int) < 0) := by omega
  go_upto_region 18 with (go_at_call 53; ((with_reducible refine (laws_markRowS (fun q => N < q) vg ts 1 Wx _ HBX.out HGO.out (by omega) (by omega)).mono ?_); rintro e w5 ⟨rfl, hr, hb, hk⟩; replace HGO := Aside0.mk hr; have HA := Aside0.mk (HA0.out.below hb); have HW := Aside0.mk (HW0.out.below hb); have B0 := pw_cell_below hb B00; have B1 := pw_cell_below hb B10; replace HBX := Aside0.mk hb; have HB := Aside0.mk (bthen HBW0.out hb); clear hr hb hk))
  have HMA := Aside0.mk (marks_at ts.length)
  have HML := Aside0.mk (marks_len 1 ts.length)
  generalize marks 1 ts.length = ms at *
  have hml : ms.length ≤ 1000000 := by have := HML.out; omega
  have HD : ∀ W, Sl kRw W vg ms → Calls Try.prog 54 #[vg, .int .i64 1] W (RetV W (.int .i64 (1 + 5 * (ts.length : Int)))) := fun W h => by rw [← HML.out]; exact laws_heldRowS vg ms W h HMA.out hml
  go_wp2_with (first
    | (go_at_call 54; ((with_reducible refine (HD _ (Sl.of_R HGO.out)).mono ?_); rintro e w' ⟨rfl, hb⟩; (try replace HA := Aside0.mk (HA.out.below hb)); (try replace HW := Aside0.mk (HW.out.below hb)); (try replace H6 := Aside0.mk (H6.out.below hb)); (try replace B0 := pw_cell_below hb B0); (try replace B1 := pw_cell_below hb B1); (try replace HGO := Aside0.mk (Kd.R_below HGO.out hb)); (try replace HBX := Aside0.mk (bthen HBX.out hb)); replace HB := Aside0.mk (bthen HB.out hb); clear hb))
    | (go_at_call 42; ((with_reducible refine (laws_toSpine _ _ ls f _ HA.out hbs).mono ?_); rintro e w' ⟨xa3, xb3, rfl, hr, hb⟩; (try replace HA := Aside0.mk (HA.out.below hb)); (try replace HW := Aside0.mk (HW.out.below hb)); (try replace H6 := Aside0.mk (H6.out.below hb)); (try replace B0 := pw_cell_below hb B0); (try replace B1 := pw_cell_below hb B1); (try replace HGO := Aside0.mk (Kd.R_below HGO.out hb)); (try replace HBX := Aside0.mk (bthen HBX.out hb)); replace HB := Aside0.mk (bthen HB.out hb); have H1 := Aside0.mk hr.s; clear hr hb))
    | (go_at_call 51; ((with_reducible refine (CI _ _ _ H1.out).mono ?_); rintro e w' ⟨vh, rfl, hr, hb⟩; (try replace HA := Aside0.mk (HA.out.below hb)); (try replace HW := Aside0.mk (HW.out.below hb)); (try replace H6 := Aside0.mk (H6.out.below hb)); (try replace B0 := pw_cell_below hb B0); (try replace B1 := pw_cell_below hb B1); (try replace HGO := Aside0.mk (Kd.R_below HGO.out hb)); (try replace HBX := Aside0.mk (bthen HBX.out hb)); replace HB := Aside0.mk (bthen HB.out hb); have H6 := Aside0.mk (Sl.of_R hr); clear hr hb))
    | (go_at_call 52; ((with_reducible refine (laws_eqRowS vh vw ts ts _ H6.out HW.out).mono ?_); rintro e w' ⟨rfl, hb⟩; (try replace HA := Aside0.mk (HA.out.below hb)); (try replace HW := Aside0.mk (HW.out.below hb)); (try replace H6 := Aside0.mk (H6.out.below hb)); (try replace B0 := pw_cell_below hb B0); (try replace B1 := pw_cell_below hb B1); (try replace HGO := Aside0.mk (Kd.R_below HGO.out hb)); (try replace HBX := Aside0.mk (bthen HBX.out hb)); replace HB := Aside0.mk (bthen HB.out hb); clear hb)))
  go_ret
  exact RetV.mk rfl HB.out
end Go.Proofs.Ythljcnlmeefcjaa.X

