/- The walk of impl.PlanText (seat .D). Conditions: none. -/
import Derived.Test.YtffibnbnabppjaaDoorXPlX
namespace Go.Proofs.YtffibnbnabppjaaDoor.X
open Go.RowKit Go.Proofs.YtffibnbnabppjaaDoorW.PrintWords
set_option linter.unusedVariables false
set_option linter.unusedSimpArgs false

/-- a plan's text; nothing of a plan that is not ok -/
def planText (x : Pn) : List UInt8 := if planOk x then textP x else []
set_option maxRecDepth 100000 in
set_option maxHeartbeats 2000000 in
theorem impl_PlanText (x : Pn) (v : Value) (w : World) (h : Sl kPn w v x.f2) : Calls Tryd.prog 7 #[.agg #[.int .i64 x.f0, .int .i64 x.f1, v]] w (RetV w (.string ⟨(planText x).toArray⟩)) := by
  have HS := Aside0.mk h
  have HP := Aside0.mk (fun v W h => impl_PlanOk x v W h)
  have HT := Aside0.mk (fun (hk : planOk x = true) v W h => impl_planText_d 4 (by decide) x.f0 x.f1 x.f2 hk v W h)
  obtain ⟨A, c, rfl, hc, hr⟩ := h
  clear hr
  have HE := Aside0.mk (show planText x = if planOk x then nameP x.f0 x.f1 ++ textL x.f2 else [] by unfold planText; rw [textP_eq])
  generalize planText x = tx at *
  cases hok : planOk x
  · rw [hok] at HP HE
    have he : tx = [] := HE.out
    subst he
    have HB := Aside0.mk (Below.refl w.heap.size w)
    go_enter Tryd.func7, Tryd.ntmps7
    have hb1 := below_alloc (Below.refl w.heap.size w) (.cells #[.int .i64 x.f0, .int .i64 x.f1, .slice A x.f2.length c] 29)
    replace HB := Aside0.mk hb1
    replace HS := Aside0.mk (HS.out.below hb1)
    clear hb1
    go_wp2_with (go_at_call 13; ((with_reducible refine (HP.out _ _ HS.out).mono ?_); rintro e w2 ⟨rfl, hb⟩; replace HB := Aside0.mk (bthen HB.out hb); clear hb))
    go_ret
    exact RetV.mk rfl HB.out
  · rw [hok] at HP HE HT
    have he : tx = nameP x.f0 x.f1 ++ textL x.f2 := HE.out
    subst he
    clear HE
    have HQ := Aside0.mk (HT.out rfl)
    clear HT
    generalize nameP x.f0 x.f1 ++ textL x.f2 = tx at *
    have HB := Aside0.mk (Below.refl w.heap.size w)
    go_enter Tryd.func7, Tryd.ntmps7
    have hb1 := below_alloc (Below.refl w.heap.size w) (.cells #[.int .i64 x.f0, .int .i64 x.f1, .slice A x.f2.length c] 29)
    replace HB := Aside0.mk hb1
    replace HS := Aside0.mk (HS.out.below hb1)
    clear hb1
    go_upto_region 1 with fail
    refine name_world fun W0 hW0 => ?_
    have B0 : W0.cell? ⟨w.heap.size, 0, none⟩ = some (.int .i64 x.f0) := by rw [hW0]; simp
    have B1 : W0.cell? ⟨w.heap.size, 1, none⟩ = some (.int .i64 x.f1) := by rw [hW0]; simp
    have B2 : W0.cell? ⟨w.heap.size, 2, none⟩ = some (.slice A x.f2.length c) := by rw [hW0]; simp
    rw [← hW0] at HB HS
    clear hW0
    go_upto_region 3 with (go_at_call 13; ((with_reducible refine (HP.out _ _ HS.out).mono ?_); rintro e w2 ⟨rfl, hb⟩; replace HB := Aside0.mk (bthen HB.out hb); replace HS := Aside0.mk (HS.out.below hb); replace B0 := pw_cell_below hb B0; replace B1 := pw_cell_below hb B1; replace B2 := pw_cell_below hb B2; clear hb))
    go_wp2_with (go_at_call 14; ((with_reducible refine (HQ.out _ _ HS.out).mono ?_); rintro e w3 ⟨rfl, hb⟩; replace HB := Aside0.mk (bthen HB.out hb); clear hb))
    go_ret
    exact RetV.mk rfl HB.out
end Go.Proofs.YtffibnbnabppjaaDoor.X
