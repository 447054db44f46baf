/- The walks of the functions on rows: each answers what its function in Pure says. Conditions: none. -/
import Derived.Test.YtbbkimgadohdkaaXTimes
import Derived.Lib.Hide
namespace Go.Proofs.Ytbbkimgadohdkaa.X
open Go.RowKit Go.Proofs.YtbbkimgadohdkaaW.PrintWords
set_option linter.unusedVariables false
set_option linter.unusedSimpArgs false

set_option maxRecDepth 100000 in
set_option maxHeartbeats 1000000 in
theorem impl_RowsOk (v : Value) (l : List Rw) (w : World) (h : Sl kRw w v l) : Calls Try.prog 70 #[v] w (RetV w (.bool (rowsOk l))) := by
  obtain ⟨A, c_, rfl, HC, hr⟩ := h
  have hm := Kd.C_max hr
  have HR := Aside0.mk hr
  clear hr
  have HB := Aside0.mk (Below.refl w.heap.size w)
  go_enter Try.func70, Try.ntmps70
  go_wp2
  go_loopw [7] (fun i wr => ∃ k : Nat, k ≤ l.length ∧ i = .int .i64 k ∧ Aside0 ((l.take k).all rowOk = true) ∧ Aside0 (Below w.heap.size w wr)) (fun i _ => l.length - (intOf i).toNat)
  case atStart => exact ⟨0, Nat.zero_le _, rfl, ⟨by simp⟩, HB⟩
  case round =>
    obtain ⟨k, hk, rfl, HA, HB⟩ := hrel
    by_cases hlt : k < l.length
    · obtain ⟨ad, x, e, HX, h0, h1, h2, h3, h4⟩ := rdRw HR.out HB.out hlt
      cases e
      go_wp2_with (go_at_call 80; refine (impl_TimeOk _ _ _).mono ?_; rintro e w' ⟨rfl, hb⟩; replace HB := Aside0.mk (bthen (below_alloc HB.out _) hb); obtain ⟨hc, hf⟩ := bcell hb)
      all_goals first
        | (go_roundw
           case rel => exact ⟨k + 1, by omega, by go_num, ⟨all_take_succ HA.out HX.out (by simp [rowOk, *])⟩, HB⟩
           case measure => simp [intOf]; omega)
        | (go_ret; exact RetV.mk (by rw [rowsOk, all_bad HX.out (by simp [rowOk, *] <;> omega)]; rfl) (by repeat (first | exact HB.out | apply below_alloc)))
    · go_wp2
      go_ret
      exact RetV.mk (by rw [rowsOk, all_done HA.out hlt]; simp; omega) HB.out
set_option maxRecDepth 100000 in
set_option maxHeartbeats 1000000 in
theorem impl_rowAhead (x y : Rw) (w : World) : Calls Try.prog 84 #[.agg #[.int .i64 x.f0, .int .i64 x.f1, .int .i64 x.f2.f0, .int .i64 x.f2.f1, .int .i64 x.f3], .agg #[.int .i64 y.f0, .int .i64 y.f1, .int .i64 y.f2.f0, .int .i64 y.f2.f1, .int .i64 y.f3]] w (RetV w (.bool (rowAhead x y))) := by
  have HB := Aside0.mk (Below.refl w.heap.size w)
  go_enter Try.func84, Try.ntmps84
  go_wp2_with (first | (go_at_call 101; refine (impl_ahead _ _ _ _ _).mono ?_; rintro e w' ⟨rfl, hb⟩; replace HB := Aside0.mk (bthen (by repeat (first | exact HB.out | apply below_alloc)) hb); obtain ⟨hc, hf⟩ := bcell hb))
  all_goals (go_ret; exact RetV.mk (by simp_all [rowAhead]) (by repeat (first | exact HB.out | apply below_alloc)))
set_option maxRecDepth 100000 in
set_option maxHeartbeats 1000000 in
theorem impl_BatchOk (v : Value) (l : List Rw) (w : World) (h : Sl kRw w v l) : Calls Try.prog 47 #[v] w (RetV w (.bool (batchOk l))) := by
  have HS := Aside0.mk h
  obtain ⟨A, c_, rfl, HC, hr⟩ := h
  have hm := Kd.C_max hr
  have HR := Aside0.mk hr
  clear hr
  have HB := Aside0.mk (Below.refl w.heap.size w)
  go_enter Try.func47, Try.ntmps47
  go_wp2
  go_loopw [7] (fun i wr => ∃ k : Nat, k ≤ l.length ∧ i = .int .i64 k ∧ Aside0 (asc (l.take k) = true) ∧ Aside0 (Below w.heap.size w wr)) (fun i _ => l.length - (intOf i).toNat)
  case atStart => exact ⟨0, Nat.zero_le _, rfl, ⟨by simp [asc]⟩, HB⟩
  case round =>
    obtain ⟨k, hk, rfl, HA, HB⟩ := hrel
    by_cases hlt : k < l.length
    · obtain ⟨ad, x, e, HX, h0, h1, h2, h3, h4⟩ := rdRw HR.out HB.out hlt
      cases e
      by_cases hk0 : 0 < k
      · obtain ⟨j, rfl⟩ : ∃ j, k = j + 1 := ⟨k - 1, by omega⟩
        obtain ⟨ad', y, e, HY, i0, i1, i2, i3, i4⟩ := rdRw HR.out HB.out (k := j) (by omega)
        cases e
        have e1 : IntKind.i64.wrap (j : Int) = j := IntWalk.i64_in _ (by omega)
        have e2 : (j : Int) < (l.length : Int) := by omega
        have e3 : j < l.length := by omega
        have e4 : (0 : Int) ≤ (j : Int) + 1 := by omega
        go_wp2
        refine name_world fun W hW => ?_
        have hb : Below wr.heap.size wr W := hW ▸ below_alloc (Below.refl _ _) _
        have b0 : ∀ u : Ext W, u.w'.cell? ⟨wr.heap.size, 0, none⟩ = some (.int .i64 x.f0) := Ext.cell (by rw [hW]; simp)
        have b1 : ∀ u : Ext W, u.w'.cell? ⟨wr.heap.size, 1, none⟩ = some (.int .i64 x.f1) := Ext.cell (by rw [hW]; simp)
        have b2 : ∀ u : Ext W, u.w'.cell? ⟨wr.heap.size, 2, none⟩ = some (.int .i64 x.f2.f0) := Ext.cell (by rw [hW]; simp)
        have b3 : ∀ u : Ext W, u.w'.cell? ⟨wr.heap.size, 3, none⟩ = some (.int .i64 x.f2.f1) := Ext.cell (by rw [hW]; simp)
        have b4 : ∀ u : Ext W, u.w'.cell? ⟨wr.heap.size, 4, none⟩ = some (.int .i64 x.f3) := Ext.cell (by rw [hW]; simp)
        have q0 := fun u => Ext.cell (pw_cell_below hb i0) u
        have q1 := fun u => Ext.cell (pw_cell_below hb i1) u
        have q2 := fun u => Ext.cell (pw_cell_below hb i2) u
        have q3 := fun u => Ext.cell (pw_cell_below hb i3) u
        have q4 := fun u => Ext.cell (pw_cell_below hb i4) u
        clear hW
        refine wp_region_ext (by kernel_rfl) (by kernel_rfl) ?_
        repeat (any_goals (first | go_big_quiet_step ((go_at_call 84; exact Calls.extV (impl_rowAhead y x _))) | quiet_step ((go_at_call 84; exact Calls.extV (impl_rowAhead y x _))) | (refine wpQuiet_step (fun K hK => ?_); go_simp; split <;> (refine hK _ ?_; clear hK K))))
        all_goals (refine wpQuiet_nil ?_; intro u)
        all_goals have HB2 := Aside0.mk (bthen HB.out (bthen hb u.bel))
        all_goals go_wp2
        all_goals first
          | (go_roundw
             case rel => exact ⟨j + 1 + 1, by omega, by go_num, ⟨by rw [asc_next HA.out HY.out HX.out]; simp_all⟩, HB2⟩
             case measure => simp [intOf]; omega)
          | (go_ret; exact RetV.mk (by rw [batchOk, asc_false (j + 1 + 1) (by rw [asc_next HA.out HY.out HX.out]; simp_all)]; rfl) HB2.out)
      · go_wp2
        refine name_world fun W hW => ?_
        have hb : Below wr.heap.size wr W := hW ▸ below_alloc (Below.refl _ _) _
        have b4 : ∀ u : Ext W, u.w'.cell? ⟨wr.heap.size, 4, none⟩ = some (.int .i64 x.f3) := Ext.cell (by rw [hW]; simp)
        clear hW
        refine wp_region_ext (by kernel_rfl) (by kernel_rfl) ?_
        repeat (any_goals (first | go_big_quiet_step (fail) | quiet_step (fail) | (refine wpQuiet_step (fun K hK => ?_); go_simp; split <;> (refine hK _ ?_; clear hK K))))
        all_goals (refine wpQuiet_nil ?_; intro u)
        all_goals have HB2 := Aside0.mk (bthen HB.out (bthen hb u.bel))
        all_goals go_wp2
        all_goals first
          | (go_roundw
             case rel => exact ⟨k + 1, by omega, by go_num, ⟨by rw [asc_first HX.out hk0]; simp_all⟩, HB2⟩
             case measure => simp [intOf]; omega)
          | (go_ret; exact RetV.mk (by rw [batchOk, asc_false (k + 1) (by rw [asc_first HX.out hk0]; simp_all)]; rfl) HB2.out)
    · go_wp2_with (go_at_call 70; refine (impl_RowsOk _ l _ (by exact Sl.below HS.out HB.out)).mono ?_; rintro e w' ⟨rfl, hb⟩)
      go_ret
      exact RetV.mk (by rw [batchOk, asc_done HA.out hlt]; rfl) (bthen HB.out hb)
set_option maxRecDepth 100000 in
set_option maxHeartbeats 1000000 in
theorem spec_l2Row (x : Rw) (w : World) : Calls Try.prog 74 #[.agg #[.int .i64 x.f0, .int .i64 x.f1, .int .i64 x.f2.f0, .int .i64 x.f2.f1, .int .i64 x.f3]] w (RetV w (.bool (rowOk x))) := by
  have HB := Aside0.mk (Below.refl w.heap.size w)
  go_enter Try.func74, Try.ntmps74
  go_wp2_with (first | (go_at_call 58; refine (spec_l6In _ _ _ _).mono ?_; rintro e w' ⟨rfl, rfl⟩) | (go_at_call 94; refine (spec_TimeOk _ _ _).mono ?_; rintro e w' ⟨rfl, hb⟩; replace HB := Aside0.mk (bthen (below_alloc HB.out _) hb); obtain ⟨hc, hf⟩ := bcell hb))
  all_goals (go_ret; refine RetV.mk (vbool ?_) (by repeat (first | exact HB.out | apply below_alloc)); (first | (simp_all [rowOk]; done) | (simp_all [rowOk]; omega) | (simp_all [rowOk]; intros; omega)))
set_option maxRecDepth 100000 in
set_option maxHeartbeats 1000000 in
theorem spec_l2Comp (a b : Rw) (w : World) : Calls Try.prog 110 #[.agg #[.int .i64 a.f0, .int .i64 a.f1, .int .i64 a.f2.f0, .int .i64 a.f2.f1, .int .i64 a.f3], .agg #[.int .i64 b.f0, .int .i64 b.f1, .int .i64 b.f2.f0, .int .i64 b.f2.f1, .int .i64 b.f3]] w (RetV w (.int .i64 (comp a b))) := by
  rw [comp_lexi]
  obtain ⟨xs, hxs⟩ : ∃ xs, xs = [a.f0, a.f1, a.f2.f0, a.f2.f1] := ⟨_, rfl⟩
  obtain ⟨ys, hys⟩ : ∃ ys, ys = [b.f0, b.f1, b.f2.f0, b.f2.f1] := ⟨_, rfl⟩
  rw [← hxs, ← hys]
  have HXS := Lib.hid hxs
  have HYS := Lib.hid hys
  clear hxs hys
  have HB := Aside0.mk (Below.refl w.heap.size w)
  go_enter Try.func110, Try.ntmps110
  go_wp2
  refine name_world fun W hW => ?_
  have hb : Below w.heap.size w W := hW ▸ (by repeat (first | exact Below.refl _ _ | apply below_alloc))
  have HX := Aside0.mk (show kI.C W (some ⟨w.heap.size + 1 + 1, 0, none⟩) 4 [a.f0, a.f1, a.f2.f0, a.f2.f1] from (by rw [hW]; exact Kd.C_alloc (by simpa using litI ((w.alloc _).alloc _) [a.f0, a.f1, a.f2.f0, a.f2.f1] 3 (by simp)) _))
  have HY := Aside0.mk (show kI.C W (some ⟨w.heap.size + 1 + 1 + 1, 0, none⟩) 4 [b.f0, b.f1, b.f2.f0, b.f2.f1] from (by rw [hW]; simpa using litI (((w.alloc _).alloc _).alloc _) [b.f0, b.f1, b.f2.f0, b.f2.f1] 3 (by simp)))
  rw [← HXS.out] at HX
  rw [← HYS.out] at HY
  have HLX := Lib.hid (show xs.length = 4 by rw [HXS.out]; rfl)
  have HLY := Lib.hid (show ys.length = 4 by rw [HYS.out]; rfl)
  clear hW HXS HYS
  replace HB := Aside0.mk hb
  clear hb
  go_loopw [7] (fun i wr => ∃ k : Nat, k ≤ 4 ∧ i = .int .i64 k ∧ Aside0 (lexi xs ys = lexi (xs.drop k) (ys.drop k)) ∧ Aside0 (Below W.heap.size W wr)) (fun i _ => 4 - (intOf i).toNat)
  case atStart => exact ⟨0, Nat.zero_le _, rfl, ⟨rfl⟩, ⟨Below.refl _ _⟩⟩
  case round =>
    obtain ⟨k, hk, rfl, HA, HB1⟩ := hrel
    by_cases hlt : k < 4
    · obtain ⟨ad, x, e, HX1, h0⟩ := rdI (by rw [HLX.out]; exact HX.out) HB1.out (k := k) (by rw [HLX.out]; exact hlt)
      cases e
      obtain ⟨ad, y, e, HY1, h1⟩ := rdI (by rw [HLY.out]; exact HY.out) HB1.out (k := k) (by rw [HLY.out]; exact hlt)
      cases e
      rw [add_plain] at h0 h1
      have q0 := fun u => Ext.cell h0 u
      have q1 := fun u => Ext.cell h1 u
      have HA2 := Aside0.mk (show lexi xs ys = (if x < y then -1 else if x > y then 1 else lexi (xs.drop (k + 1)) (ys.drop (k + 1))) from (by rw [HA.out, drop_cons HX1.out, drop_cons HY1.out]; rfl))
      by_cases c1 : x < y
      · go_wp2
        refine wp_region_ext (by kernel_rfl) (by kernel_rfl) ?_
        repeat (any_goals (first | go_big_quiet_step (fail) | quiet_step (fail) | (refine wpQuiet_step (fun K hK => ?_); go_simp; split <;> (refine hK _ ?_; clear hK K))))
        all_goals (refine wpQuiet_nil ?_; intro u)
        all_goals go_wp2
        go_ret
        exact RetV.mk (by rw [HA2.out, if_pos c1]; rfl) (bthen HB.out (bthen HB1.out u.bel))
      · go_wp2
        refine wp_region_ext (by kernel_rfl) (by kernel_rfl) ?_
        repeat (any_goals (first | go_big_quiet_step (fail) | quiet_step (fail) | (refine wpQuiet_step (fun K hK => ?_); go_simp; split <;> (refine hK _ ?_; clear hK K))))
        all_goals (refine wpQuiet_nil ?_; intro u)
        all_goals go_wp2
        have HB2 := Aside0.mk (bthen HB1.out u.bel)
        replace q0 := q0 u
        replace q1 := q1 u
        have p0 := fun u => Ext.cell q0 u
        have p1 := fun u => Ext.cell q1 u
        clear h0 h1
        by_cases c2 : y < x
        ·
          refine wp_region_ext (by kernel_rfl) (by kernel_rfl) ?_
          repeat (any_goals (first | go_big_quiet_step (fail) | quiet_step (fail) | (refine wpQuiet_step (fun K hK => ?_); go_simp; split <;> (refine hK _ ?_; clear hK K))))
          all_goals (refine wpQuiet_nil ?_; intro u2)
          all_goals go_wp2
          go_ret
          exact RetV.mk (by rw [HA2.out, if_neg (by omega), if_pos c2]; rfl) (bthen HB.out (bthen HB2.out u2.bel))
        ·
          refine wp_region_ext (by kernel_rfl) (by kernel_rfl) ?_
          repeat (any_goals (first | go_big_quiet_step (fail) | quiet_step (fail) | (refine wpQuiet_step (fun K hK => ?_); go_simp; split <;> (refine hK _ ?_; clear hK K))))
          all_goals (refine wpQuiet_nil ?_; intro u2)
          all_goals go_wp2
          go_roundw
          case rel => exact ⟨k + 1, by omega, by go_num, ⟨by rw [HA2.out, if_neg (by omega), if_neg (by omega)]⟩, ⟨bthen HB2.out u2.bel⟩⟩
          case measure => simp [intOf]; omega
    · go_wp2
      go_ret
      exact RetV.mk (by show Value.int _ _ = _; rw [HA.out, List.drop_of_length_le (by rw [HLX.out]; omega)]; rfl) (bthen HB.out HB1.out)
end Go.Proofs.Ytbbkimgadohdkaa.X
