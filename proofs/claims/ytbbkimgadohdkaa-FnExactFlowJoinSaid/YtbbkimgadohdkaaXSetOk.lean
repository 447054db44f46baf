/- The walks of SetOk, the program's and the reference's. Conditions: none. -/
import Derived.Test.YtbbkimgadohdkaaXTimes
import Derived.Test.YtbbkimgadohdkaaXPSet
namespace Go.Proofs.Ytbbkimgadohdkaa.X
open Go.RowKit Go.Proofs.YtbbkimgadohdkaaW.PrintWords
set_option linter.unusedVariables false
set_option linter.unusedSimpArgs false

set_option maxRecDepth 100000 in
set_option maxHeartbeats 400000 in
theorem spec_l3Big (w : World) : Calls Try.prog 59 #[] w (RetV w (.int .i64 1099511627776)) := by
  have HB := Aside0.mk (Below.refl w.heap.size w)
  go_enter Try.func59, Try.ntmps59
  go_wp2
  go_ret
  exact RetV.mk rfl HB.out
set_option maxRecDepth 100000 in
set_option maxHeartbeats 1000000 in
theorem spec_l3Item (x : It) (w : World) : Calls Try.prog 57 #[.agg #[.int .i64 x.f0, .int .i64 x.f1, .int .i64 x.f2]] w (RetV w (.bool (sItem x))) := by
  have HB := Aside0.mk (Below.refl w.heap.size w)
  go_enter Try.func57, Try.ntmps57
  go_wp2
  all_goals (go_ret; exact RetV.mk (by first | (simp_all [sItem]; done) | (refine vbool ?_; simp_all [sItem] <;> omega)) (by repeat (first | exact HB.out | apply below_alloc)))
set_option maxRecDepth 100000 in
set_option maxHeartbeats 3000000 in
theorem spec_SetOk (v : Value) (l : List It) (w : World) (h : Sl kIt w v l) : Calls Try.prog 18 #[v] w (RetV w (.bool (setOk l))) := by
  obtain ⟨A, c_, rfl, HC, hr⟩ := h
  have hm := Kd.C_max hr
  have HR := Aside0.mk hr
  clear hr
  by_cases hlen : l.length ≤ 400
  · have hlen2 : decide ((l.length : Int) > 400) = false := decide_eq_false (by omega)
    have HB := Aside0.mk (Below.refl w.heap.size w)
    go_enter Try.func18, Try.ntmps18
    go_wp2
    go_loopw [3] (fun i wr => ∃ k : Nat, k ≤ l.length ∧ i = .int .i64 k ∧ Aside0 (sAsc (l.take k) = true) ∧ Aside0 (Below w.heap.size w wr)) (fun i _ => l.length - (intOf i).toNat)
    case atStart => exact ⟨0, Nat.zero_le _, rfl, ⟨by simp [sAsc]⟩, HB⟩
    case round =>
      obtain ⟨k, hk, rfl, HA, HB⟩ := hrel
      by_cases hlt : k < l.length
      · obtain ⟨ad, x, e, HX, h0, h1, h2⟩ := rdIt HR.out HB.out hlt
        cases e
        have p0 := fun u => Ext.cell h0 u
        have p1 := fun u => Ext.cell h1 u
        have p2 := fun u => Ext.cell h2 u
        by_cases hk0 : 0 < k
        · obtain ⟨j, rfl⟩ : ∃ j, k = j + 1 := ⟨k - 1, by omega⟩
          obtain ⟨ad', y, e, HY, i0, i1, i2⟩ := rdIt HR.out HB.out (k := j) (by omega)
          cases e
          have e1 : IntKind.i64.wrap (j : Int) = j := IntWalk.i64_in _ (by omega)
          have e2 : (j : Int) < (l.length : Int) := by omega
          have e3 : j < l.length := by omega
          have e4 : (0 : Int) ≤ (j : Int) + 1 := by omega
          have q0 := fun u => Ext.cell i0 u
          have q1 := fun u => Ext.cell i1 u
          have q2 := fun u => Ext.cell i2 u
          go_wp2
          refine wp_region_ext (by kernel_rfl) (by kernel_rfl) ?_
          repeat (any_goals (first | go_big_quiet_step (first | (go_at_call 57; exact Calls.extV (spec_l3Item x _)) | (go_at_call 59; exact Calls.extV (spec_l3Big _)) | (go_at_call 58; refine (spec_l6In _ _ _ _).mono ?_; rintro e w' ⟨rfl, rfl⟩; exact ⟨rfl, _, rfl⟩)) | quiet_step (first | (go_at_call 57; exact Calls.extV (spec_l3Item x _)) | (go_at_call 59; exact Calls.extV (spec_l3Big _)) | (go_at_call 58; refine (spec_l6In _ _ _ _).mono ?_; rintro e w' ⟨rfl, rfl⟩; exact ⟨rfl, _, rfl⟩)) | (refine wpQuiet_step (fun K hK => ?_); go_simp; split <;> (refine hK _ ?_; clear hK K))))
          all_goals (refine wpQuiet_nil ?_; intro u)
          all_goals have HB2 := Aside0.mk (bthen HB.out u.bel)
          all_goals go_wp2
          all_goals first
            | (go_roundw
               case rel => exact ⟨j + 1 + 1, by omega, by go_num, ⟨by rw [sAsc_next HA.out HY.out HX.out]; simp_all [sOk, sNext] <;> omega⟩, HB2⟩
               case measure => simp [intOf]; omega)
            | (go_ret; exact RetV.mk (by rw [setOk, sAsc_false (j + 1 + 1) (by rw [sAsc_next HA.out HY.out HX.out]; simp_all [sOk, sNext] <;> omega)]; simp) HB2.out)
        · go_wp2
          refine wp_region_ext (by kernel_rfl) (by kernel_rfl) ?_
          repeat (any_goals (first | go_big_quiet_step (first | (go_at_call 57; exact Calls.extV (spec_l3Item x _)) | (go_at_call 59; exact Calls.extV (spec_l3Big _)) | (go_at_call 58; refine (spec_l6In _ _ _ _).mono ?_; rintro e w' ⟨rfl, rfl⟩; exact ⟨rfl, _, rfl⟩)) | quiet_step (first | (go_at_call 57; exact Calls.extV (spec_l3Item x _)) | (go_at_call 59; exact Calls.extV (spec_l3Big _)) | (go_at_call 58; refine (spec_l6In _ _ _ _).mono ?_; rintro e w' ⟨rfl, rfl⟩; exact ⟨rfl, _, rfl⟩)) | (refine wpQuiet_step (fun K hK => ?_); go_simp; split <;> (refine hK _ ?_; clear hK K))))
          all_goals (refine wpQuiet_nil ?_; intro u)
          all_goals have HB2 := Aside0.mk (bthen HB.out u.bel)
          all_goals go_wp2
          all_goals first
            | (go_roundw
               case rel => exact ⟨k + 1, by omega, by go_num, ⟨by rw [sAsc_first HX.out hk0]; simp_all [sOk] <;> omega⟩, HB2⟩
               case measure => simp [intOf]; omega)
            | (go_ret; exact RetV.mk (by rw [setOk, sAsc_false (k + 1) (by rw [sAsc_first HX.out hk0]; simp_all [sOk] <;> omega)]; simp) HB2.out)
      · go_wp2
        go_ret
        exact RetV.mk (by rw [setOk, sAsc_done HA.out hlt]; simp [hlen]) HB.out
  · have hlen2 : decide ((l.length : Int) > 400) = true := decide_eq_true (by omega)
    have HB := Aside0.mk (Below.refl w.heap.size w)
    go_enter Try.func18, Try.ntmps18
    go_wp2
    go_ret
    exact RetV.mk (by simp [setOk, hlen]) HB.out
set_option maxRecDepth 100000 in
set_option maxHeartbeats 3000000 in
theorem impl_SetOk (v : Value) (l : List It) (w : World) (h : Sl kIt w v l) : Calls Try.prog 52 #[v] w (RetV w (.bool (setOk l))) := by
  obtain ⟨A, c_, rfl, HC, hr⟩ := h
  have hm := Kd.C_max hr
  have HR := Aside0.mk hr
  clear hr
  have HB := Aside0.mk (Below.refl w.heap.size w)
  go_enter Try.func52, Try.ntmps52
  go_wp2
  go_loopw [7] (fun i wr => ∃ k : Nat, k ≤ l.length ∧ i = .int .i64 k ∧ Aside0 (sAsc (l.take k) = true) ∧ Aside0 (Below w.heap.size w wr)) (fun i _ => l.length - (intOf i).toNat)
  case atStart => exact ⟨0, Nat.zero_le _, rfl, ⟨by simp [sAsc]⟩, HB⟩
  case round =>
    obtain ⟨k, hk, rfl, HA, HB⟩ := hrel
    by_cases hlt : k < l.length
    · obtain ⟨ad, x, e, HX, h0, h1, h2⟩ := rdIt HR.out HB.out hlt
      cases e
      by_cases hk0 : 0 < k
      · obtain ⟨j, rfl⟩ : ∃ j, k = j + 1 := ⟨k - 1, by omega⟩
        obtain ⟨ad', y, e, HY, i0, i1, i2⟩ := rdIt HR.out HB.out (k := j) (by omega)
        cases e
        have e1 : IntKind.i64.wrap (j : Int) = j := IntWalk.i64_in _ (by omega)
        have e2 : (j : Int) < (l.length : Int) := by omega
        have e3 : j < l.length := by omega
        have e4 : (0 : Int) ≤ (j : Int) + 1 := by omega
        go_wp2
        any_goals (go_ret; exact RetV.mk (by rw [setOk, sAsc_false (j + 1 + 1) (by rw [sAsc_next HA.out HY.out HX.out]; simp_all [sOk, sItem, sNext] <;> omega)]; simp) (below_alloc HB.out _))
        refine name_world fun W hW => ?_
        have hb : Below wr.heap.size wr W := hW ▸ below_alloc (Below.refl _ _) _
        have b0 : ∀ u : Ext W, u.w'.cell? ⟨wr.heap.size, 0, none⟩ = some (.int .i64 x.f0) := Ext.cell (by rw [hW]; simp)
        have b1 : ∀ u : Ext W, u.w'.cell? ⟨wr.heap.size, 1, none⟩ = some (.int .i64 x.f1) := Ext.cell (by rw [hW]; simp)
        have q0 := fun u => Ext.cell (pw_cell_below hb i0) u
        have q1 := fun u => Ext.cell (pw_cell_below hb i1) u
        have q2 := fun u => Ext.cell (pw_cell_below hb i2) u
        clear hW
        refine wp_region_ext (by kernel_rfl) (by kernel_rfl) ?_
        repeat (any_goals (first | go_big_quiet_step (fail) | quiet_step (fail) | (refine wpQuiet_step (fun K hK => ?_); go_simp; split <;> (refine hK _ ?_; clear hK K))))
        all_goals (refine wpQuiet_nil ?_; intro u)
        all_goals have HB2 := Aside0.mk (bthen HB.out (bthen hb u.bel))
        all_goals go_wp2
        all_goals first
          | (go_roundw
             case rel => exact ⟨j + 1 + 1, by omega, by go_num, ⟨by rw [sAsc_next HA.out HY.out HX.out]; simp_all [sOk, sItem, sNext] <;> omega⟩, HB2⟩
             case measure => simp [intOf]; omega)
          | (go_ret; exact RetV.mk (by rw [setOk, sAsc_false (j + 1 + 1) (by rw [sAsc_next HA.out HY.out HX.out]; simp_all [sOk, sItem, sNext] <;> omega)]; simp) HB2.out)
      ·
        go_wp2
        any_goals (go_ret; exact RetV.mk (by rw [setOk, sAsc_false (k + 1) (by rw [sAsc_first HX.out hk0]; simp_all [sOk, sItem] <;> omega)]; simp) (below_alloc HB.out _))
        refine name_world fun W hW => ?_
        have hb : Below wr.heap.size wr W := hW ▸ below_alloc (Below.refl _ _) _
        have b0 : ∀ u : Ext W, u.w'.cell? ⟨wr.heap.size, 0, none⟩ = some (.int .i64 x.f0) := Ext.cell (by rw [hW]; simp)
        have b1 : ∀ u : Ext W, u.w'.cell? ⟨wr.heap.size, 1, none⟩ = some (.int .i64 x.f1) := Ext.cell (by rw [hW]; simp)
        clear hW
        refine wp_region_ext (by kernel_rfl) (by kernel_rfl) ?_
        repeat (any_goals (first | go_big_quiet_step (fail) | quiet_step (fail) | (refine wpQuiet_step (fun K hK => ?_); go_simp; split <;> (refine hK _ ?_; clear hK K))))
        all_goals (refine wpQuiet_nil ?_; intro u)
        all_goals have HB2 := Aside0.mk (bthen HB.out (bthen hb u.bel))
        all_goals go_wp2
        all_goals first
          | (go_roundw
             case rel => exact ⟨k + 1, by omega, by go_num, ⟨by rw [sAsc_first HX.out hk0]; simp_all [sOk, sItem] <;> omega⟩, HB2⟩
             case measure => simp [intOf]; omega)
          | (go_ret; exact RetV.mk (by rw [setOk, sAsc_false (k + 1) (by rw [sAsc_first HX.out hk0]; simp_all [sOk, sItem] <;> omega)]; simp) HB2.out)
    · go_wp2
      go_ret
      exact RetV.mk (vbool (by rw [setOk, sAsc_done HA.out hlt]; simp; omega)) HB.out
end Go.Proofs.Ytbbkimgadohdkaa.X
