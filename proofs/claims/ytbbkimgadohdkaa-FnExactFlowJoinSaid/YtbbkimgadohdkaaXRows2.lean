/- The walks of the functions that say whether rows, batches and spines are in form. Conditions: none. -/
import Derived.Test.YtbbkimgadohdkaaXRows
namespace Go.Proofs.Ytbbkimgadohdkaa.X
open Go.RowKit Go.Proofs.YtbbkimgadohdkaaW.PrintWords
set_option linter.unusedVariables false
set_option linter.unusedSimpArgs false

set_option maxRecDepth 100000 in
set_option maxHeartbeats 1000000 in
theorem spec_RowsOk (v : Value) (l : List Rw) (w : World) (h : Sl kRw w v l) : Calls Try.prog 33 #[v] w (RetV w (.bool (rowsOk l))) := by
  obtain ⟨A, c_, rfl, HC, hr⟩ := h
  have hm := Kd.C_max hr
  have HR := Aside0.mk hr
  clear hr
  by_cases hl : 400 < l.length
  ·
    have HB := Aside0.mk (Below.refl w.heap.size w)
    go_enter Try.func33, Try.ntmps33
    go_wp2
    go_ret
    exact RetV.mk (by simp [rowsOk]; intro _; omega) HB.out
  ·
    have hl' : ¬ (400 < (l.length : Int)) := by omega
    have HB := Aside0.mk (Below.refl w.heap.size w)
    go_enter Try.func33, Try.ntmps33
    go_wp2
    go_loopw [3] (fun i wr => ∃ k : Nat, k ≤ l.length ∧ i = .int .i64 k ∧ Aside0 ((l.take k).all rowOk = true) ∧ Aside0 (Below w.heap.size w wr)) (fun i _ => l.length - (intOf i).toNat)
    case atStart => exact ⟨0, Nat.zero_le _, rfl, ⟨by simp⟩, HB⟩
    case round =>
      obtain ⟨k, hk, rfl, HA, HB⟩ := hrel
      by_cases hlt : k < l.length
      · obtain ⟨ad, x, e, HX, h0, h1, h2, h3, h4⟩ := rdRw HR.out HB.out hlt
        cases e
        go_wp2_with (go_at_call 74; refine (spec_l2Row x _).mono ?_; rintro e w' ⟨rfl, hb⟩; replace HB := Aside0.mk (bthen HB.out hb))
        all_goals first
          | (go_roundw
             case rel => exact ⟨k + 1, by omega, by go_num, ⟨all_take_succ HA.out HX.out (by simp_all)⟩, HB⟩
             case measure => simp [intOf]; omega)
          | (go_ret; exact RetV.mk (by rw [rowsOk, all_bad HX.out (by simp_all)]; rfl) HB.out)
      · go_wp2
        go_ret
        exact RetV.mk (by rw [rowsOk, all_done HA.out hlt]; simp; omega) HB.out
set_option maxRecDepth 100000 in
set_option maxHeartbeats 1000000 in
theorem spec_BatchOk (v : Value) (l : List Rw) (w : World) (h : Sl kRw w v l) : Calls Try.prog 92 #[v] w (RetV w (.bool (batchOk l))) := by
  have HS := Aside0.mk h
  obtain ⟨A, c_, rfl, HC, hr⟩ := h
  have hm := Kd.C_max hr
  have HR := Aside0.mk hr
  clear hr
  cases hro : rowsOk l
  ·
    have HB := Aside0.mk (Below.refl w.heap.size w)
    go_enter Try.func92, Try.ntmps92
    go_wp2_with (go_at_call 33; refine (spec_RowsOk _ l _ HS.out).mono ?_; rintro e w' ⟨rfl, hb⟩; replace HB := Aside0.mk hb)
    go_ret
    exact RetV.mk (by simp [batchOk, hro]) HB.out
  ·
    have HB := Aside0.mk (Below.refl w.heap.size w)
    go_enter Try.func92, Try.ntmps92
    go_wp2_with (go_at_call 33; refine (spec_RowsOk _ l _ HS.out).mono ?_; rintro e w' ⟨rfl, hb⟩; replace HB := Aside0.mk hb)
    go_loopw [3] (fun i wr => ∃ k : Nat, k ≤ l.length ∧ i = .int .i64 k ∧ Aside0 (asc (l.take k) = true) ∧ Aside0 (Below w.heap.size w wr)) (fun i _ => l.length - (intOf i).toNat)
    case atStart => exact ⟨0, Nat.zero_le _, rfl, ⟨by simp [asc]⟩, HB⟩
    case round =>
      obtain ⟨k, hk, rfl, HA, HB⟩ := hrel
      by_cases hlt : k < l.length
      · obtain ⟨ad, x, e, HX, h0, h1, h2, h3, h4⟩ := rdRw HR.out HB.out hlt
        cases e
        have p0 := fun u => Ext.cell h0 u
        have p1 := fun u => Ext.cell h1 u
        have p2 := fun u => Ext.cell h2 u
        have p3 := fun u => Ext.cell h3 u
        have p4 := fun u => Ext.cell h4 u
        by_cases hk0 : 0 < k
        · obtain ⟨j, rfl⟩ : ∃ j, k = j + 1 := ⟨k - 1, by omega⟩
          obtain ⟨ad', y, e, HY, i0, i1, i2, i3, i4⟩ := rdRw HR.out HB.out (k := j) (by omega)
          cases e
          have e1 : IntKind.i64.wrap (j : Int) = j := IntWalk.i64_in _ (by omega)
          have e2 : (j : Int) < (l.length : Int) := by omega
          have e3 : j < l.length := by omega
          have e4 : (0 : Int) ≤ (j : Int) + 1 := by omega
          have q0 := fun u => Ext.cell i0 u
          have q1 := fun u => Ext.cell i1 u
          have q2 := fun u => Ext.cell i2 u
          have q3 := fun u => Ext.cell i3 u
          have q4 := fun u => Ext.cell i4 u
          go_wp2
          refine wp_region_ext (by kernel_rfl) (by kernel_rfl) ?_
          repeat (any_goals (first | go_big_quiet_step ((go_at_call 110; exact Calls.extV (spec_l2Comp y x _))) | quiet_step ((go_at_call 110; exact Calls.extV (spec_l2Comp y x _))) | (refine wpQuiet_step (fun K hK => ?_); go_simp; split <;> (refine hK _ ?_; clear hK K))))
          all_goals (refine wpQuiet_nil ?_; intro u)
          all_goals have HB2 := Aside0.mk (bthen HB.out u.bel)
          all_goals go_wp2
          all_goals first
            | (go_roundw
               case rel => exact ⟨j + 1 + 1, by omega, by go_num, ⟨by rw [asc_next HA.out HY.out HX.out]; have := comp_ge y x; cases hra : rowAhead y x <;> simp_all <;> omega⟩, HB2⟩
               case measure => simp [intOf]; omega)
            | (go_ret; exact RetV.mk (by rw [batchOk, asc_false (j + 1 + 1) (by rw [asc_next HA.out HY.out HX.out]; have := comp_ge y x; cases hra : rowAhead y x <;> simp_all <;> omega)]; rfl) HB2.out)
        · go_wp2
          refine wp_region_ext (by kernel_rfl) (by kernel_rfl) ?_
          repeat (any_goals (first | go_big_quiet_step (fail) | quiet_step (fail) | (refine wpQuiet_step (fun K hK => ?_); go_simp; split <;> (refine hK _ ?_; clear hK K))))
          all_goals (refine wpQuiet_nil ?_; intro u)
          all_goals have HB2 := Aside0.mk (bthen HB.out u.bel)
          all_goals go_wp2
          all_goals first
            | (go_roundw
               case rel => exact ⟨k + 1, by omega, by go_num, ⟨by rw [asc_first HX.out hk0]; simp_all⟩, HB2⟩
               case measure => simp [intOf]; omega)
            | (go_ret; exact RetV.mk (by rw [batchOk, asc_false (k + 1) (by rw [asc_first HX.out hk0]; simp_all)]; rfl) HB2.out)
      · go_wp2
        go_ret
        exact RetV.mk (by rw [batchOk, asc_done HA.out hlt, hro]; rfl) HB.out
end Go.Proofs.Ytbbkimgadohdkaa.X
