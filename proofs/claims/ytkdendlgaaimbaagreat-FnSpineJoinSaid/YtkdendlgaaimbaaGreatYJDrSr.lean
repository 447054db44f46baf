/- Conditions: none. -/
import Derived.Test.YtkdendlgaaimbaaGreatYJDrSq
import Derived.RegionTactic
import Derived.BigRegion
namespace Go.Proofs.YtkdendlgaaimbaaGreat.X
open Go.RowKit Go.Proofs.YtkdendlgaaimbaaGreatW.PrintWords Go.Proofs.YtkdendlgaaimbaaGreatW.PrintLast
open List (setIfInBounds_toArray set_cons_zero set_cons_succ)
set_option linter.unusedVariables false
set_option linter.unusedSimpArgs false
theorem below_un {w W : World} {o : Obj} (h : Below (w.alloc o).heap.size (w.alloc o) W) : Below w.heap.size w W :=
 ⟨h.os, h.tape, h.output, by have := h.size; simp at this; omega, fun j hj => (h.block j (by simp; omega)).trans (Below.heap_alloc w o j hj)⟩
theorem wrap_len {n : Nat} (h : n ≤ 8) : IntKind.i64.wrap ((n : Int) + 2) = (n : Int) + 2 := by
 rcases (show n = 0 ∨ n = 1 ∨ n = 2 ∨ n = 3 ∨ n = 4 ∨ n = 5 ∨ n = 6 ∨ n = 7 ∨ n = 8 by omega) with rfl | rfl | rfl | rfl | rfl | rfl | rfl | rfl | rfl <;> decide
def SpnK (w : World) (e : Ending) (w' : World) : Prop := ∃ (u v : Value) (ls : List (List Rw)) (f : List Tm) (k : Int), e = .returned (.tuple #[.agg #[u, v], .int .i64 k]) ∧ SpS w' u v ls f ∧ SpD 300 ls f ∧ Below w.heap.size w w'
def tb_spec_DrawSpineJoin_7.T : Bool × List (List Nat × List Nat) := (true, [([], []), ([], []), ([], []), ([2], [2]), ([3], [3]), ([4], [4]), ([1, 5], [1, 5]), ([6], [6]), ([0, 6, 0], [0]), ([7, 8, 0, 1, 2, 3, 4, 5, 6, 7, 8], [7])])
def tb_spec_DrawSpineJoin_7.B : List Nat := [0, 0, 0, 4, 12, 28, 62, 126, 127, 511]
theorem tb_spec_DrawSpineJoin_7.tab : rtab .any (opsOf Tryz.f23 7) = tb_spec_DrawSpineJoin_7.T := by kernel_rfl
theorem tb_spec_DrawSpineJoin_7.bits : waitsOk tb_spec_DrawSpineJoin_7.T.2 tb_spec_DrawSpineJoin_7.B = true := by kernel_rfl
set_option maxRecDepth 100000 in
set_option maxHeartbeats 4000000 in
theorem spec_DrawSpineJoin (v : Value) (l : List Int) (w : World) (h : Sl kB w v l) (hb : ∀ x ∈ l, 0 ≤ x ∧ x ≤ 255) : Calls Tryz.prog 23 #[v] w (SpnK w) := by
 obtain ⟨w0, hw0⟩ : ∃ w0, w0 = w.alloc (.cells #[.slice none 0 0, .slice none 0 0] 26) := ⟨_, rfl⟩
 have C1 := spec_l6Open v l w0 (by rw [hw0]; exact h.below (below_alloc (Below.refl _ _) _)) hb
 have HC : Aside0 (w0.heap[w.heap.size]? = some (.cells #[.slice none 0 0, .slice none 0 0] 26 (0, 0))) := ⟨by rw [hw0]; exact blk_new w _⟩
 have hsz : w0.heap.size = w.heap.size + 1 := by rw [hw0]; simp
 have HUN := Aside0.mk (fun (W : World) (hW : Below w0.heap.size w0 W) => below_un (w := w) (o := (.cells #[.slice none 0 0, .slice none 0 0] 26)) (by rw [← hw0]; exact hW))
 go_enter Tryz.func23, Tryz.ntmps23
 go_upto_region 1 with fail
 rw [← hw0]
 obtain ⟨T, hT⟩ : ∃ T, T = w.heap.size := ⟨_, rfl⟩
 rw [← hT] at HC ⊢
 have HTw := Aside0.mk (show w.heap.size ≤ T by omega)
 have hT1 : T < w0.heap.size := by omega
 clear hw0 hT hsz
 go_upto_region 2 with (go_at_call 25; ((with_reducible refine C1.mono ?_); rintro e V ⟨rb, s_, rfl, hs, hrd, hba⟩; have hS := Aside0.mk hs; have HR := Aside0.mk hrd; have hge := hrd.ge; have hbl := hrd.lt; have hVs := hba.size; replace HC := Aside0.mk (blk_below HC.out hba); clear hs hrd hba))
 clear C1 h hb
 have HCS := Aside0.mk (spec_l71Spine (V := V) hS HR.out (by omega))
 go_upto_region 3 with (go_at_call 26; ((with_reducible refine HCS.out.mono ?_); rintro e wb ⟨u, v, ls, f, rfl, hsp, hd, p1, g0, g1, hrd, hg⟩; obtain ⟨A9, c9, e9⟩ := Kd.R_slice hsp.1; subst e9; obtain ⟨A10, c10, e9⟩ := Kd.R_slice hsp.2; subst e9; have HSP := Aside0.mk hsp; have HM := Aside0.mk hd; replace HR := Aside0.mk hrd; have HV := Aside0.mk hg; replace HC := Aside0.mk (blk_grown HC.out hg (by intro e; have := Option.some.inj e; omega)); clear hsp hd hrd hg))
 clear HCS
 have hwV := HV.out.size
 refine name_world fun W1 hW => ?_
 have B0 : W1.heap[wb.heap.size]? = some (.cells #[.slice A9 ls.length c9, .slice A10 f.length c10] 26 (0, 0)) := by rw [hW]; exact blk_new wb _
 have hb1 : Below wb.heap.size wb W1 := by rw [hW]; repeat (first | exact Below.refl _ _ | apply below_alloc | refine below_set ?_ (by simp))
 clear hW
 generalize hX : wb.heap.size = X at B0 ⊢
 have HFx : Aside0 (DF w0 rb V X T) := ⟨⟨hVs, by omega, by omega, by omega, by omega⟩⟩
 have HD : Aside0 (DS w0 rb s_ V X T (.slice A9 ls.length c9) (.slice A10 f.length c10) ls f p1 W1) := ⟨⟨HR.out.below hb1, HSP.out.below hb1, B0, blk_below HC.out hb1, grownBy_after HV.out hb1⟩⟩
 clear hX hb1 B0 HC HR HSP HV hwV hge hVs hT1
 go_upto_block 0 with fail
 go_cut [] (fun wc => ∃ (u v : Value) (ls : List (List Rw)) (f : List Tm) (p2 : Int), 0 ≤ p2 ∧ p2 ≤ 2200 ∧ Aside0 (SpD 120 ls f) ∧ Aside0 (DS w0 rb s_ V X T u v ls f p2 wc))
 case first =>
  go_wp2
  go_loopw [6] (fun i wr => ∃ (k : Nat) (u v : Value) (ls : List (List Rw)) (f : List Tm) (pp : Int), k ≤ 4 ∧ i = .int .i64 k ∧ 0 ≤ pp ∧ pp ≤ 420 + 420 * k ∧ Aside0 (SpD 120 ls f) ∧ Aside0 (DS w0 rb s_ V X T u v ls f pp wr)) (fun i _ => 4 - (intOf i).toNat)
  case atStart => exact ⟨0, _, _, _, _, p1, by omega, rfl, by omega, by omega, HM, HD⟩
  case round =>
   clear HD HM
   obtain ⟨k, u, v, ls, f, pp, hk, rfl, hp0, hp1, HM, HD⟩ := hrel
   obtain ⟨A7, c7, e7⟩ := Kd.R_slice HD.out.sp.1
   subst e7
   have x0 := HD.out.x0
   by_cases hlt : k < 4
   ·have hltz : (k : Int) < 4 := by omega
    by_cases hl2 : ls.length < 2
    ·have hl2z : (ls.length : Int) < 2 := by omega
     go_wp2_with (go_at_call 26; ((with_reducible refine (spec_l71Spine hS HD.out.rd (by omega)).mono ?_); rintro e wb ⟨a, b, L, F, rfl, hsp, hd, p2, g0, g1, hrd, hg⟩; obtain ⟨A9, c9, e9⟩ := Kd.R_slice hsp.1; subst e9; obtain ⟨A10, c10, e9⟩ := Kd.R_slice hsp.2; subst e9; have HSP := Aside0.mk (SpT.lower hsp HD.out.le); have HM2 := Aside0.mk hd; replace HD := Aside0.mk (HD.out.pick hrd hg HFx.out); replace x0 := HD.out.x0; have x1 := HD.out.x1; have xf0 := blk_fz HD.out.xb 0; have xf1 := blk_fz HD.out.xb 1; clear hsp hd hrd hg))
     go_roundw
     case rel => exact ⟨k + 1, _, _, L, F, p2, by omega, by go_num, by omega, by omega, HM2, ⟨HD.out.put HSP.out HFx.out⟩⟩
     case measure => simp [intOf]; omega
    ·have hl2z : ¬ (ls.length : Int) < 2 := by omega
     go_wp2
     go_meet
     case rel => exact ⟨_, v, ls, f, pp, by omega, by omega, HM, HD⟩
   ·have hltz : ¬ (k : Int) < 4 := by omega
    go_wp2
    go_meet
    case rel => exact ⟨_, v, ls, f, pp, by omega, by omega, HM, HD⟩
 case rest =>
  clear HD HM
  obtain ⟨u, v, ls, f, p2, hp0, hp1, HM, HD⟩ := hcut
  go_at_K
  go_upto_region 7 with fail
  obtain ⟨A7, c7, e7⟩ := Kd.R_slice HD.out.sp.1
  subst e7
  obtain ⟨A8, c8, e8⟩ := Kd.R_slice HD.out.sp.2
  subst e8
  replace HD := Aside0.mk (HD.out.below (below_drew (Below.refl _ _)))
  have hl8 := HM.out.few
  have ew : IntKind.i64.wrap ((ls.length : Int) + 2) = (ls.length : Int) + 2 := by have e := wrap_len (n := ls.length) hl8; exact e
  have HPK := Aside0.mk (spec_pick hS.out HD.out.rd (by omega) ((ls.length : Int) + 2) (by omega) (by omega))
  refine start_ (n := 10) (S := fun w' => w'.cell? ⟨X, 0, none⟩ = some (.slice A7 ls.length c7) ∧ w'.cell? ⟨X, 1, none⟩ = some (.slice A8 f.length c8)) (ds := [8]) #[false, false, false, false, false, false, false, false, false, false] (by kernel_rfl) rfl rfl ⟨HD.out.x0, HD.out.x1⟩ (fun hHeld => ?_)
  refine with_tabW tb_spec_DrawSpineJoin_7.tab tb_spec_DrawSpineJoin_7.bits (fun HT_ HW_ => ?_)
  refine pure_ (i := 1) (N := some 24) (v := ?_) (a' := ?_) #[false, true, false, false, false, false, false, false, false, false] rfl rfl (any_of HT_.out (by kernel_rfl)) (fun _ _ _ h => h) (Or.inl ⟨by rfl, ?_⟩) ?_ ?_
  rotate_left
  ·intro w'
   go_simp
   with_reducible rfl
  rotate_left
  ·simp only [Act.put, setIfInBounds_toArray, set_cons_zero, set_cons_succ, i64_w]
   rfl
  refine pure_ (i := 2) (N := some 25) (v := ?_) (a' := ?_) #[false, true, true, false, false, false, false, false, false, false] rfl rfl (any_of HT_.out (by kernel_rfl)) (fun _ _ _ h => h) (Or.inl ⟨by rfl, ?_⟩) ?_ ?_
  rotate_left
  ·intro w'
   go_simp
   with_reducible rfl
  rotate_left
  ·simp only [Act.put, setIfInBounds_toArray, set_cons_zero, set_cons_succ, i64_w]
   rfl
  refine take_ (i := 0) (N := some 23) (v := ?_) (a' := ?_) #[true, true, true, false, false, false, false, false, false, false] rfl rfl (take_ofW HT_.out HW_.out (by kernel_rfl)) (fun _ _ _ h => h) (Or.inl ⟨by rfl, ?_⟩) hHeld ?_ ?_
  rotate_left
  ·rintro w' ⟨s0, s1⟩
   go_simp
   with_reducible rfl
  rotate_left
  ·simp only [Act.put, setIfInBounds_toArray, set_cons_zero, set_cons_succ, i64_w]
   rfl
  refine take_ (i := 3) (N := some 26) (v := ?_) (a' := ?_) #[true, true, true, true, false, false, false, false, false, false] rfl rfl (take_ofW HT_.out HW_.out (by kernel_rfl)) (fun _ _ _ h => h) (Or.inl ⟨by rfl, ?_⟩) hHeld ?_ ?_
  rotate_left
  ·rintro w' ⟨s0, s1⟩
   go_simp
   with_reducible rfl
  rotate_left
  ·simp only [Act.put, setIfInBounds_toArray, set_cons_zero, set_cons_succ, i64_w]
   rfl
  refine pure_ (i := 4) (N := some 27) (v := ?_) (a' := ?_) #[true, true, true, true, true, false, false, false, false, false] rfl rfl (any_of HT_.out (by kernel_rfl)) (fun _ _ _ h => h) (Or.inl ⟨by rfl, ?_⟩) ?_ ?_
  rotate_left
  ·intro w'
   go_simp
   with_reducible rfl
  rotate_left
  ·simp only [Act.put, setIfInBounds_toArray, set_cons_zero, set_cons_succ, i64_w]
   rfl
  refine pure_ (i := 5) (N := some 28) (v := ?_) (a' := ?_) #[true, true, true, true, true, true, false, false, false, false] rfl rfl (any_of HT_.out (by kernel_rfl)) (fun _ _ _ h => h) (Or.inl ⟨by rfl, ?_⟩) ?_ ?_
  rotate_left
  ·intro w'
   go_simp
   with_reducible rfl
  rotate_left
  ·simp only [Act.put, setIfInBounds_toArray, set_cons_zero, set_cons_succ, i64_w]
   rfl
  refine one_ (i := 6) (N := some 29) #[true, true, true, true, true, true, true, false, false, false] rfl rfl (one_of HT_.out (by kernel_rfl)) (by decide) (fun K hK => ?_)
  refine goes_ Tryz.func27 (by kernel_rfl) rfl #[.pointer (some ⟨rb, 0, none⟩), .int .i64 ((ls.length : Int) + 2)] (by rfl) rfl rfl (by simp only [List.map_toArray, List.map_cons, List.map_nil]; rfl) ?_
  with_reducible refine (HPK.out).mono ?_
  rintro e wa ⟨j, rfl, j0, j1, hr, hg⟩
  refine ⟨_, rfl, ?_⟩
  replace HD := Aside0.mk (HD.out.pick hr hg HFx.out)
  have t0 := blk_cell HD.out.tb 0
  have t1 := blk_cell HD.out.tb 1
  have tf0 := blk_frozen HD.out.tb 0
  have tf1 := blk_frozen HD.out.tb 1
  clear hr hg
  refine hK.out _ _ ⟨HD.out.x0, HD.out.x1⟩ (fun hHeld => ?_)
  clear hK K
  refine norm_ (a' := ?_) ?_ ?_
  rotate_left
  ·show Act.put _ (some 29) _ = _
   simp only [Act.put, setIfInBounds_toArray, set_cons_zero, set_cons_succ, i64_w]
   rfl
  refine pure_ (i := 7) (N := some 30) (v := ?_) (a' := ?_) #[true, true, true, true, true, true, true, true, false, false] rfl rfl (any_of HT_.out (by kernel_rfl)) (fun _ _ _ h => h) (Or.inl ⟨by rfl, ?_⟩) ?_ ?_
  rotate_left
  ·intro w'
   go_simp
   with_reducible rfl
  rotate_left
  ·simp only [Act.put, setIfInBounds_toArray, set_cons_zero, set_cons_succ, i64_w]
   rfl
  refine last_ (i := 8) (N := none) #[true, true, true, true, true, true, true, true, true, false] rfl rfl (one_of HT_.out (by kernel_rfl)) (by decide) (fun K hK => ?_)
  refine skip_ (w1 := ?_) (by rfl) rfl ?_ ?_
  rotate_left
  ·go_simp
   rfl
  refine hK.out _ _ ?_
  clear hK K
  refine pure_ (i := 9) (N := some 3) (v := ?_) (a' := ?_) #[true, true, true, true, true, true, true, true, true, true] rfl rfl (any_of HT_.out (by kernel_rfl)) (fun _ _ _ h => h) (Or.inl ⟨by rfl, ?_⟩) ?_ ?_
  rotate_left
  ·intro w'
   go_simp
   with_reducible rfl
  rotate_left
  ·simp only [Act.put, setIfInBounds_toArray, set_cons_zero, set_cons_succ, i64_w]
   rfl
  refine done_ (done_of HT_.out (by kernel_rfl)) ?_
  go_wp2
  refine bodyPost_ret (results_ct rfl _ _ T 26 #[.slice A7 ls.length c7, .slice A8 f.length c8] (0, 0) _ rfl (blk2 HD.out.tb _ _) Tryz.underlying26 rfl (by kernel_rfl)) rfl ?_
  exact ⟨_, _, ls, f, _, rfl, SpT.s (SpT.set2 HD.out.sp HD.out.tb _ _), HM.out.mono (by decide), below_set (below_set (HUN.out _ HD.out.rd.bel) HTw.out) HTw.out⟩
end Go.Proofs.YtkdendlgaaimbaaGreat.X
