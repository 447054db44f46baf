/- The walk of the exact law on PlanText. Conditions: none. -/
import Derived.Test.YtffibnbnabppjaaDoorXPn
import Derived.Test.YtffibnbnabppjaaDoorXPnOk
import Derived.Test.YtffibnbnabppjaaDoorXOpPn
import Derived.Test.YtffibnbnabppjaaDoorXPlY
import Derived.Test.YtffibnbnabppjaaDoorXPlZ
namespace Go.Proofs.YtffibnbnabppjaaDoor.X
open Go.RowKit Go.Proofs.YtffibnbnabppjaaDoorW.PrintWords
set_option linter.unusedVariables false
set_option linter.unusedSimpArgs false

set_option maxRecDepth 100000 in
set_option maxHeartbeats 2000000 in
theorem spec_PlanText (x : Pn) (v : Value) (w : World) (h : Sl kPn w v x.f2) : Calls Tryd.prog 5 #[.agg #[.int .i64 x.f0, .int .i64 x.f1, v]] w (RetV w (.string ⟨(planText x).toArray⟩)) := by
  have HS := Aside0.mk h
  have HP := Aside0.mk (fun v W h => spec_PlanOk x v W h)
  have HT := Aside0.mk (fun (hk : planOk x = true) v W h => spec_l21Say_d 4 (by decide) x.f0 x.f1 x.f2 hk v W h)
  obtain ⟨A, c, rfl, hc, hr⟩ := h
  clear hr
  have HE := Aside0.mk (show planText x = if planOk x then nameP x.f0 x.f1 ++ textL x.f2 else [] by unfold planText; rw [textP_eq])
  generalize planText x = tx at *
  cases hok : planOk x
  · rw [hok] at HP HE
    have he : tx = [] := HE.out
    subst he
    have HB := Aside0.mk (Below.refl w.heap.size w)
    go_enter Tryd.func5, Tryd.ntmps5
    have hb1 := below_alloc (Below.refl w.heap.size w) (.cells #[.int .i64 x.f0, .int .i64 x.f1, .slice A x.f2.length c] 29)
    replace HB := Aside0.mk hb1
    replace HS := Aside0.mk (HS.out.below hb1)
    clear hb1
    go_wp2_with (go_at_call 10; ((with_reducible refine (HP.out _ _ HS.out).mono ?_); rintro e w2 ⟨rfl, hb⟩; replace HB := Aside0.mk (bthen HB.out hb); clear hb))
    go_ret
    exact RetV.mk rfl HB.out
  · rw [hok] at HP HE HT
    have he : tx = nameP x.f0 x.f1 ++ textL x.f2 := HE.out
    subst he
    clear HE
    have HQ := Aside0.mk (HT.out rfl)
    clear HT
    generalize nameP x.f0 x.f1 ++ textL x.f2 = tx at *
    have HB := Aside0.mk (Below.refl w.heap.size w)
    go_enter Tryd.func5, Tryd.ntmps5
    have hb1 := below_alloc (Below.refl w.heap.size w) (.cells #[.int .i64 x.f0, .int .i64 x.f1, .slice A x.f2.length c] 29)
    replace HB := Aside0.mk hb1
    replace HS := Aside0.mk (HS.out.below hb1)
    clear hb1
    go_upto_region 1 with fail
    refine name_world fun W0 hW0 => ?_
    have B0 : W0.cell? ⟨w.heap.size, 0, none⟩ = some (.int .i64 x.f0) := by rw [hW0]; simp
    have B1 : W0.cell? ⟨w.heap.size, 1, none⟩ = some (.int .i64 x.f1) := by rw [hW0]; simp
    have B2 : W0.cell? ⟨w.heap.size, 2, none⟩ = some (.slice A x.f2.length c) := by rw [hW0]; simp
    rw [← hW0] at HB HS
    clear hW0
    go_upto_region 3 with (go_at_call 10; ((with_reducible refine (HP.out _ _ HS.out).mono ?_); rintro e w2 ⟨rfl, hb⟩; replace HB := Aside0.mk (bthen HB.out hb); replace HS := Aside0.mk (HS.out.below hb); replace B0 := pw_cell_below hb B0; replace B1 := pw_cell_below hb B1; replace B2 := pw_cell_below hb B2; clear hb))
    go_wp2_with (go_at_call 11; ((with_reducible refine (HQ.out _ _ HS.out).mono ?_); rintro e w3 ⟨rfl, hb⟩; replace HB := Aside0.mk (bthen HB.out hb); clear hb))
    go_ret
    exact RetV.mk rfl HB.out
set_option maxRecDepth 100000 in
set_option maxHeartbeats 4000000 in
theorem laws_FnExactPlanText (x : Pn) (v : Value) (w : World) (h : Sl kPn w v x.f2) : Calls Tryd.prog 3 #[.agg #[.int .i64 x.f0, .int .i64 x.f1, v]] w (RetV w (.bool true)) := by
  have HA := Aside0.mk h
  obtain ⟨A, c, rfl, hc, hr⟩ := h
  clear hr
  have HX := Aside0.mk (Eq.refl (cntL x.f2))
  generalize hnn : cntL x.f2 = n at HX
  have HN := Aside0.mk hnn
  clear hnn HX
  have HB := Aside0.mk (Below.refl w.heap.size w)
  go_enter Tryd.func3, Tryd.ntmps3
  go_upto_region 1 with fail
  refine name_world fun W0 hW0 => ?_
  have hb0 : Below w.heap.size w W0 := hW0 ▸ below_alloc (Below.refl _ _) _
  have B0 : W0.cell? ⟨w.heap.size, 0, none⟩ = some (.int .i64 x.f0) := by rw [hW0]; simp
  have B1 : W0.cell? ⟨w.heap.size, 1, none⟩ = some (.int .i64 x.f1) := by rw [hW0]; simp
  have B2 : W0.cell? ⟨w.heap.size, 2, none⟩ = some (.slice A x.f2.length c) := by rw [hW0]; simp
  clear hW0
  replace HB := Aside0.mk hb0
  replace HA := Aside0.mk (HA.out.below hb0)
  clear hb0
  have C1 := fun W h => laws_szPlan x (.slice A x.f2.length c) 1048576 W h (by omega) (by omega)
  by_cases hn : (n : Int) ≤ 1048576
  case neg =>
    have C2 := fun W h => by have := C1 W h; rw [HN.out, szv_no (by omega)] at this; exact this
    have HC := Aside0.mk C2
    clear C1 C2 hn
    go_wp2_with (first
      | (go_at_call 4; ((with_reducible refine (HC.out _ HA.out).mono ?_); rintro e w' ⟨rfl, hb⟩; (try replace HA := Aside0.mk (HA.out.below hb)); (try replace B0 := pw_cell_below hb B0); (try replace B1 := pw_cell_below hb B1); (try replace B2 := pw_cell_below hb B2); replace HB := Aside0.mk (bthen HB.out hb); clear hb)))
    go_ret
    exact RetV.mk rfl HB.out
  have C2 := fun W h => by have := C1 W h; rw [HN.out, szv_yes hn] at this; exact this
  have HC := Aside0.mk C2
  have hpos : (0 : Int) ≤ 1048576 - (n : Int) := by omega
  have HCN := Aside0.mk (show cntL x.f2 ≤ 1048576 by rw [HN.out]; omega)
  clear C1 C2 hn
  have PO := fun v W h => impl_PlanText x v W h
  have PS := fun v W h => spec_PlanText x v W h
  generalize planText x = tx at PO PS
  have HPO := Aside0.mk PO
  have HPS := Aside0.mk PS
  clear PO PS
  go_upto_region 6 with (first
    | (go_at_call 4; ((with_reducible refine (HC.out _ HA.out).mono ?_); rintro e w' ⟨rfl, hb⟩; (try replace HA := Aside0.mk (HA.out.below hb)); (try replace B0 := pw_cell_below hb B0); (try replace B1 := pw_cell_below hb B1); (try replace B2 := pw_cell_below hb B2); replace HB := Aside0.mk (bthen HB.out hb); clear hb))
    | (go_at_call 6; ((with_reducible refine (laws_toPlan x _ _ HA.out HCN.out).mono ?_); rintro e w' ⟨va, rfl, hr, hb⟩; (try replace HA := Aside0.mk (HA.out.below hb)); (try replace B0 := pw_cell_below hb B0); (try replace B1 := pw_cell_below hb B1); (try replace B2 := pw_cell_below hb B2); replace HB := Aside0.mk (bthen HB.out hb); have H1 := Aside0.mk (Sl.of_R hr); clear hr hb))
    | (go_at_call 5; ((with_reducible refine (HPS.out _ _ H1.out).mono ?_); rintro e w' ⟨rfl, hb⟩; (try replace HA := Aside0.mk (HA.out.below hb)); (try replace B0 := pw_cell_below hb B0); (try replace B1 := pw_cell_below hb B1); (try replace B2 := pw_cell_below hb B2); replace HB := Aside0.mk (bthen HB.out hb); clear hb)))
  clear H1
  go_upto_region 7 with (go_at_call 6; ((with_reducible refine (laws_toPlan x _ _ HA.out HCN.out).mono ?_); rintro e w2 ⟨vx, rfl, hr, hb⟩; have HX := Aside0.mk (Sl.of_R hr); obtain ⟨A5, c5, rfl, _, _⟩ := Kd.R_reads hr; replace HA := Aside0.mk (HA.out.below hb); replace HB := Aside0.mk (bthen HB.out hb); replace B0 := pw_cell_below hb B0; replace B1 := pw_cell_below hb B1; replace B2 := pw_cell_below hb B2; clear hr hb))
  refine name_world fun W1 hW1 => ?_
  have hb1 : Below w2.heap.size w2 W1 := hW1 ▸ below_alloc (Below.refl _ _) _
  have X0 : W1.cell? ⟨w2.heap.size, 0, none⟩ = some (.int .i64 x.f0) := by rw [hW1]; simp
  have X1 : W1.cell? ⟨w2.heap.size, 1, none⟩ = some (.int .i64 x.f1) := by rw [hW1]; simp
  have X2 : W1.cell? ⟨w2.heap.size, 2, none⟩ = some (.slice A5 x.f2.length c5) := by rw [hW1]; simp
  clear hW1
  replace B0 := pw_cell_below hb1 B0
  replace B1 := pw_cell_below hb1 B1
  replace B2 := pw_cell_below hb1 B2
  replace HA := Aside0.mk (HA.out.below hb1)
  replace HX := Aside0.mk (HX.out.below hb1)
  replace HB := Aside0.mk (bthen HB.out hb1)
  clear hb1
  obtain ⟨M, hM⟩ : ∃ M, M = w2.heap.size := ⟨_, rfl⟩
  rw [← hM] at X0 X1 X2 ⊢
  clear hM
  go_upto_region 10 with (first
    | (go_at_call 7; ((with_reducible refine (HPO.out _ _ HX.out).mono ?_); rintro e w' ⟨rfl, hb⟩; (try replace HA := Aside0.mk (HA.out.below hb)); (try replace HX := Aside0.mk (HX.out.below hb)); (try replace B0 := pw_cell_below hb B0); (try replace B1 := pw_cell_below hb B1); (try replace B2 := pw_cell_below hb B2); (try replace X0 := pw_cell_below hb X0); (try replace X1 := pw_cell_below hb X1); (try replace X2 := pw_cell_below hb X2); replace HB := Aside0.mk (bthen HB.out hb); clear hb)))
  have d0 := pw_cell_below (below_drew (Below.refl _ _)) B0
  have d1 := pw_cell_below (below_drew (Below.refl _ _)) B1
  have d2 := pw_cell_below (below_drew (Below.refl _ _)) B2
  have d3 := pw_cell_below (below_drew (Below.refl _ _)) X0
  have d4 := pw_cell_below (below_drew (Below.refl _ _)) X1
  have d5 := pw_cell_below (below_drew (Below.refl _ _)) X2
  replace HA := Aside0.mk (HA.out.below (below_drew (Below.refl _ _)))
  replace HX := Aside0.mk (HX.out.below (below_drew (Below.refl _ _)))
  replace HB := Aside0.mk (below_drew HB.out)
  go_region_held3 (fun w' => w'.cell? ⟨w.heap.size, 0, none⟩ = some (.int .i64 x.f0) ∧ w'.cell? ⟨w.heap.size, 1, none⟩ = some (.int .i64 x.f1) ∧ w'.cell? ⟨w.heap.size, 2, none⟩ = some (.slice A x.f2.length c) ∧ w'.cell? ⟨M, 0, none⟩ = some (.int .i64 x.f0) ∧ w'.cell? ⟨M, 1, none⟩ = some (.int .i64 x.f1) ∧ w'.cell? ⟨M, 2, none⟩ = some (.slice A5 x.f2.length c5)) (first | exact ⟨B0, B1, B2, X0, X1, X2⟩ | exact ⟨d0, d1, d2, d3, d4, d5⟩)
    (first
    | (go_at_call 6; ((with_reducible refine (laws_toPlan x _ _ HA.out HCN.out).mono ?_); rintro e w' ⟨va2, rfl, hr, hb⟩; (try replace HA := Aside0.mk (HA.out.below hb)); (try replace HX := Aside0.mk (HX.out.below hb)); replace d0 := pw_cell_below hb d0; replace d1 := pw_cell_below hb d1; replace d2 := pw_cell_below hb d2; replace d3 := pw_cell_below hb d3; replace d4 := pw_cell_below hb d4; replace d5 := pw_cell_below hb d5; replace HB := Aside0.mk (bthen HB.out hb); have H1 := Aside0.mk (Sl.of_R hr); clear hr hb))
    | (go_at_call 8; ((with_reducible refine (laws_eqPlan x _ _ _ HX.out H1.out).mono ?_); rintro e w' ⟨rfl, hb⟩; (try replace HA := Aside0.mk (HA.out.below hb)); (try replace HX := Aside0.mk (HX.out.below hb)); replace d0 := pw_cell_below hb d0; replace d1 := pw_cell_below hb d1; replace d2 := pw_cell_below hb d2; replace d3 := pw_cell_below hb d3; replace d4 := pw_cell_below hb d4; replace d5 := pw_cell_below hb d5; replace HB := Aside0.mk (bthen HB.out hb); clear hb)))
  go_wp2
  go_ret
  exact RetV.mk rfl HB.out
end Go.Proofs.YtffibnbnabppjaaDoor.X
