/- Conditions: none. -/
import Derived.Test.YtkdendlgaaimbaaYNDrSr
import Derived.RegionTactic
import Derived.BigRegion
namespace Go.Proofs.Ytkdendlgaaimbaa.X
open Go.RowKit Go.Proofs.YtkdendlgaaimbaaW.PrintWords Go.Proofs.YtkdendlgaaimbaaW.PrintLast
open List (setIfInBounds_toArray set_cons_zero set_cons_succ)
set_option linter.unusedVariables false
set_option linter.unusedSimpArgs false
theorem tpos (t : Int) : decide (0 < t) = true ∨ decide (0 < t) = false := by cases h : decide (0 < t); exact .inr rfl; exact .inl rfl
theorem two_cells {P : Program} {fn : Func} {p q : Tmp} {ty ty' : TypeId} (h : fn.results = #[.cell p ty, .cell q ty']) (tmps : Array Value) (w : World) (g g' : Nat) (t t' : TypeId) (cs cs' : Array Value) (fr fr' : Nat × Nat) (d d' : TypeDesc) (hp : tmps.getD p undef = .pointer (some ⟨g, 0, none⟩)) (hg : w.heap[g]? = some (.cells cs t fr)) (hu : P.underlying ty = some d) (hd : (match d with | .struct _ | .array _ _ => true | _ => false) = true) (hi : (P.info? ty).map (·.size) = some cs.size) (hp' : tmps.getD q undef = .pointer (some ⟨g', 0, none⟩)) (hg' : w.heap[g']? = some (.cells cs' t' fr')) (hu' : P.underlying ty' = some d') (hd' : (match d' with | .struct _ | .array _ _ => true | _ => false) = true) (hi' : (P.info? ty').map (·.size) = some cs'.size) : (results fn tmps).run P w = .ok (.tuple #[.agg cs, .agg cs']) w := by
 have h1 : tmps[p]?.getD undef = .pointer (some ⟨g, 0, none⟩) := by simpa using hp
 have h2 : tmps[q]?.getD undef = .pointer (some ⟨g', 0, none⟩) := by simpa using hp'
 simp [results, h, h1, h2, asAddr, run_loadVar_row w g t ty cs fr d hg hu hd hi, run_loadVar_row w g' t' ty' cs' fr' d' hg' hu' hd' hi']
def SpnT (w : World) (e : Ending) (w' : World) : Prop := ∃ (u v : Value) (ls : List (List Rw)) (f : List Tm) (t : Tm), e = .returned (.tuple #[.agg #[u, v], .agg #[.int .i64 t.f0, .int .i64 t.f1]]) ∧ SpS w' u v ls f ∧ SpD 300 ls f ∧ Below w.heap.size w w'
theorem R_tm2 {α : Type} {d : Kd α} {e base U : Nat} {w : World} {v : Value} {xs : List α} (h : d.R e w base okT v xs) (hU : U < base) (x y : Value) : d.R e ((w.setCell ⟨U, 0, none⟩ x).setCell ⟨U, 1, none⟩ y) base okT v xs :=
 Kd.R_mono (Kd.R_far (Kd.R_far (Kd.R_bound h) (p := ⟨U, 0, none⟩) (fun k hk => by have := hk.2.1; show k ≠ U; omega) _) (p := ⟨U, 1, none⟩) (fun k hk => by have := hk.2.1; show k ≠ U; omega) _) (fun _ _ => trivial)
def tb_spec_DrawSpineAt_5.T : Bool × List (List Nat × List Nat) := (true, [([], []), ([], []), ([], []), ([2], [2]), ([], []), ([], []), ([5], [5]), ([6], [6]), ([4, 7], [4, 7]), ([3, 8], [3, 8]), ([9], [9]), ([1, 10, 8], [1, 10]), ([0, 11, 0], [0]), ([11, 12, 0, 1, 2, 3, 4, 5, 6, 7, 8, 9, 10, 11, 12], [11])])
def tb_spec_DrawSpineAt_5.B : List Nat := [0, 0, 0, 4, 0, 0, 32, 96, 240, 508, 1020, 2046, 4095, 8191]
theorem tb_spec_DrawSpineAt_5.tab : rtab .any (opsOf Try.f24 5) = tb_spec_DrawSpineAt_5.T := by kernel_rfl
theorem tb_spec_DrawSpineAt_5.bits : waitsOk tb_spec_DrawSpineAt_5.T.2 tb_spec_DrawSpineAt_5.B = true := by kernel_rfl
set_option maxRecDepth 100000 in
set_option maxHeartbeats 4000000 in
theorem spec_DrawSpineAt (v : Value) (l : List Int) (w : World) (h : Sl kB w v l) (hb : ∀ x ∈ l, 0 ≤ x ∧ x ≤ 255) : Calls Try.prog 24 #[v] w (SpnT w) := by
 obtain ⟨w0, hw0⟩ : ∃ w0, w0 = (w.alloc (.cells #[.slice none 0 0, .slice none 0 0] 26)).alloc (.cells #[.int .i64 0, .int .i64 0] 43) := ⟨_, rfl⟩
 have C1 := spec_l6Open v l w0 (by rw [hw0]; exact h.below (below_alloc (below_alloc (Below.refl _ _) _) _)) hb
 have HC : Aside0 (w0.heap[w.heap.size]? = some (.cells #[.slice none 0 0, .slice none 0 0] 26 (0, 0))) := ⟨by rw [hw0]; exact blk_alloc (blk_new w _) _⟩
 have hsz : w0.heap.size = w.heap.size + 1 + 1 := by rw [hw0]; simp
 obtain ⟨U, hU⟩ : ∃ U, U = w.heap.size + 1 := ⟨_, rfl⟩
 have HU : Aside0 (w0.heap[U]? = some (.cells #[.int .i64 0, .int .i64 0] 43 (0, 0))) := ⟨by rw [hw0, hU]; have := blk_new (w.alloc (.cells #[.slice none 0 0, .slice none 0 0] 26)) (.cells #[.int .i64 0, .int .i64 0] 43); simpa using this⟩
 have HUN := Aside0.mk (fun (W : World) (hW : Below w0.heap.size w0 W) => below_un (w := w) (o := .cells #[.slice none 0 0, .slice none 0 0] 26) (below_un (w := w.alloc (.cells #[.slice none 0 0, .slice none 0 0] 26)) (o := .cells #[.int .i64 0, .int .i64 0] 43) (by rw [← hw0]; exact hW)))
 go_enter Try.func24, Try.ntmps24
 go_upto_region 1 with fail
 rw [← hw0, ← hU]
 obtain ⟨T, hT⟩ : ∃ T, T = w.heap.size := ⟨_, rfl⟩
 rw [← hT] at HC ⊢
 have HTw := Aside0.mk (show w.heap.size ≤ T by omega)
 have HUw := Aside0.mk (show w.heap.size ≤ U by omega)
 have hT1 : T < w0.heap.size := by omega
 have hU1 : U < w0.heap.size := by omega
 have hTU : T ≠ U := by omega
 clear hw0 hT hsz hU
 go_upto_region 2 with (go_at_call 67; ((with_reducible refine C1.mono ?_); rintro e V ⟨rb, s_, rfl, hs, hrd, hba⟩; have hS := Aside0.mk hs; have HR := Aside0.mk hrd; have hge := hrd.ge; have hbl := hrd.lt; have hVs := hba.size; replace HC := Aside0.mk (blk_below HC.out hba); replace HU := Aside0.mk (blk_below HU.out hba); clear hs hrd hba))
 clear C1 h hb
 have HCS := Aside0.mk (spec_l71Spine (V := V) hS HR.out (by omega))
 go_upto_region 3 with (go_at_call 68; ((with_reducible refine HCS.out.mono ?_); rintro e wb ⟨u, v, ls, f, rfl, hsp, hd, p1, g0, g1, hrd, hg⟩; obtain ⟨A9, c9, e9⟩ := Kd.R_slice hsp.1; subst e9; obtain ⟨A10, c10, e9⟩ := Kd.R_slice hsp.2; subst e9; have HSP := Aside0.mk hsp; have HM := Aside0.mk hd; replace HR := Aside0.mk hrd; have HV := Aside0.mk hg; replace HC := Aside0.mk (blk_grown HC.out hg (by intro e; have := Option.some.inj e; omega)); replace HU := Aside0.mk (blk_grown HU.out hg (by intro e; have := Option.some.inj e; omega)); clear hsp hd hrd hg))
 clear HCS
 have hwV := HV.out.size
 refine name_world fun W1 hW => ?_
 have B0 : W1.heap[wb.heap.size]? = some (.cells #[.slice A9 ls.length c9, .slice A10 f.length c10] 26 (0, 0)) := by rw [hW]; exact blk_new wb _
 have hb1 : Below wb.heap.size wb W1 := by rw [hW]; repeat (first | exact Below.refl _ _ | apply below_alloc | refine below_set ?_ (by simp))
 clear hW
 generalize hX : wb.heap.size = X at B0 ⊢
 have HFx : Aside0 (DF w0 rb V X T) := ⟨⟨hVs, by omega, by omega, by omega, by omega⟩⟩
 have HD : Aside0 (DS w0 rb s_ V X T (.slice A9 ls.length c9) (.slice A10 f.length c10) ls f p1 W1) := ⟨⟨HR.out.below hb1, HSP.out.below hb1, B0, blk_below HC.out hb1, grownBy_after HV.out hb1⟩⟩
 replace HU := Aside0.mk (blk_below HU.out hb1)
 have hUr : U ≠ rb := by omega
 have hUX : U ≠ X := by omega
 have hUV : U < V.heap.size := by omega
 clear hX hb1 B0 HC HR HSP HV hwV hge hVs hT1 hU1
 have hf70 := HM.out.fl
 go_upto_region 4 with (go_at_call 88; ((with_reducible refine (spec_l71Odd hS HD.out.rd (by omega)).mono ?_); rintro e wc ⟨t, rfl, ht, p2, g2, g3, hrd, hg⟩; replace HU := Aside0.mk (blk_grown HU.out hg (fun e => hUr (Option.some.inj e))); replace HD := Aside0.mk (HD.out.pick hrd hg HFx.out); clear hrd hg ht))
 refine name_world fun W2 hW => ?_
 have BY : W2.heap[wc.heap.size]? = some (.cells #[.int .i64 t.f0, .int .i64 t.f1] 43 (0, 0)) := by rw [hW]; exact blk_new wc _
 have hb1 : Below wc.heap.size wc W2 := by rw [hW]; repeat (first | exact Below.refl _ _ | apply below_alloc | refine below_set ?_ (by simp))
 clear hW
 generalize hY : wc.heap.size = Y at BY ⊢
 have hYn := HD.out.fresh
 have hYV := HD.out.le
 have hYU : Y ≠ U := by have := blk_lt HU.out; omega
 rw [hY] at hYn hYV
 replace HD := Aside0.mk (HD.out.below hb1)
 replace HU := Aside0.mk (blk_below HU.out hb1)
 have HYB := Aside0.mk BY
 clear BY hb1 hY
 have x0 := HD.out.x0
 have x1 := HD.out.x1
 go_upto_if 21 with (go_at_call 69; ((with_reducible refine (spec_pick hS.out HD.out.rd (by omega) 3 (by omega) (by omega)).mono ?_); rintro e wd ⟨q, rfl, q0, q1, hr, hgr⟩; replace HU := Aside0.mk (blk_grown HU.out hgr (fun e => hUr (Option.some.inj e))); replace HYB := Aside0.mk (blk_grown HYB.out hgr (fun e => hYn.2.2 (Option.some.inj e))); replace HD := Aside0.mk (HD.out.pick hr hgr HFx.out); replace x0 := HD.out.x0; replace x1 := HD.out.x1; clear hr hgr; rcases tpos q with htb | htb))
 ·by_cases hf0 : 0 < f.length
  ·have hfz : (f.length : Int) > 0 := by omega
   go_upto_region 5 with fail
   replace HD := Aside0.mk (HD.out.below (below_drew (Below.refl _ _)))
   replace HU := Aside0.mk (blk_below HU.out (below_drew (Below.refl _ _)))
   replace HYB := Aside0.mk (blk_below HYB.out (below_drew (Below.refl _ _)))
   replace x0 := HD.out.x0
   replace x1 := HD.out.x1
   have y0 := blk_cell HYB.out 0
   have y1 := blk_cell HYB.out 1
   obtain ⟨ad, _, e2, _, _, _⟩ := rdTm (Kd.R_reads' HD.out.sv).2.2 (Below.refl _ _) (k := 0) hf0
   cases e2
   have HC := fun W' (hh : kTm.R 43 W' V.heap.size okT (.slice (some ad) f.length c10) f) => cellsTmE (Kd.R_reads' hh).2.2
   have HTJ := fun (z : Tm) W' => spec_TimeJoin t.f0 t.f1 z.f0 z.f1 W'
   have HPK := Aside0.mk (spec_pick hS.out HD.out.rd (by omega) (f.length : Int) (by omega) (by omega))
   refine start_ (n := 14) (S := fun w' => w'.cell? ⟨X, 0, none⟩ = some (.slice A9 ls.length c9) ∧ w'.cell? ⟨X, 1, none⟩ = some (.slice (some ad) f.length c10) ∧ w'.cell? ⟨Y, 0, none⟩ = some (.int .i64 t.f0) ∧ w'.cell? ⟨Y, 1, none⟩ = some (.int .i64 t.f1) ∧ (∀ i, i < f.length → w'.cell? (ad.add (i * 2)) = some (.int .i64 (tmAt f i).f0)) ∧ (∀ i, i < f.length → w'.cell? ⟨(ad.add (i * 2)).block, (ad.add (i * 2)).off + 1, none⟩ = some (.int .i64 (tmAt f i).f1))) (ds := [12, 13]) #[false, false, false, false, false, false, false, false, false, false, false, false, false, false] (by kernel_rfl) rfl rfl ⟨x0, x1, y0, y1, (HC _ HD.out.sv).1, (HC _ HD.out.sv).2⟩ (fun hHeld => ?_)
   refine with_tabW tb_spec_DrawSpineAt_5.tab tb_spec_DrawSpineAt_5.bits (fun HT_ HW_ => ?_)
   refine pure_ (i := 2) (N := some 24) (v := ?_) (a' := ?_) #[false, false, true, false, false, false, false, false, false, false, false, false, false, false] rfl rfl (any_of HT_.out (by kernel_rfl)) (fun _ _ _ h => h) (Or.inl ⟨by rfl, ?_⟩) ?_ ?_
   rotate_left
   ·intro w'
    go_simp
    with_reducible rfl
   rotate_left
   ·simp only [Act.put, setIfInBounds_toArray, set_cons_zero, set_cons_succ, i64_w]
    rfl
   refine pure_ (i := 4) (N := some 26) (v := ?_) (a' := ?_) #[false, false, true, false, true, false, false, false, false, false, false, false, false, false] rfl rfl (any_of HT_.out (by kernel_rfl)) (fun _ _ _ h => h) (Or.inl ⟨by rfl, ?_⟩) ?_ ?_
   rotate_left
   ·intro w'
    go_simp
    with_reducible rfl
   rotate_left
   ·simp only [Act.put, setIfInBounds_toArray, set_cons_zero, set_cons_succ, i64_w]
    rfl
   refine pure_ (i := 5) (N := some 27) (v := ?_) (a' := ?_) #[false, false, true, false, true, true, false, false, false, false, false, false, false, false] rfl rfl (any_of HT_.out (by kernel_rfl)) (fun _ _ _ h => h) (Or.inl ⟨by rfl, ?_⟩) ?_ ?_
   rotate_left
   ·intro w'
    go_simp
    with_reducible rfl
   rotate_left
   ·simp only [Act.put, setIfInBounds_toArray, set_cons_zero, set_cons_succ, i64_w]
    rfl
   refine take_ (i := 0) (N := some 22) (v := ?_) (a' := ?_) #[true, false, true, false, true, true, false, false, false, false, false, false, false, false] rfl rfl (take_ofW HT_.out HW_.out (by kernel_rfl)) (fun _ _ _ h => h) (Or.inl ⟨by rfl, ?_⟩) hHeld ?_ ?_
   rotate_left
   ·rintro w' ⟨s0, s1, s2, s3, s4, s5⟩
    go_simp
    with_reducible rfl
   rotate_left
   ·simp only [Act.put, setIfInBounds_toArray, set_cons_zero, set_cons_succ, i64_w]
    rfl
   refine take_ (i := 1) (N := some 23) (v := ?_) (a' := ?_) #[true, true, true, false, true, true, false, false, false, false, false, false, false, false] rfl rfl (take_ofW HT_.out HW_.out (by kernel_rfl)) (fun _ _ _ h => h) (Or.inl ⟨by rfl, ?_⟩) hHeld ?_ ?_
   rotate_left
   ·rintro w' ⟨s0, s1, s2, s3, s4, s5⟩
    go_simp
    with_reducible rfl
   rotate_left
   ·simp only [Act.put, setIfInBounds_toArray, set_cons_zero, set_cons_succ, i64_w]
    rfl
   refine take_ (i := 3) (N := some 25) (v := ?_) (a' := ?_) #[true, true, true, true, true, true, false, false, false, false, false, false, false, false] rfl rfl (take_ofW HT_.out HW_.out (by kernel_rfl)) (fun _ _ _ h => h) (Or.inl ⟨by rfl, ?_⟩) hHeld ?_ ?_
   rotate_left
   ·rintro w' ⟨s0, s1, s2, s3, s4, s5⟩
    go_simp
    with_reducible rfl
   rotate_left
   ·simp only [Act.put, setIfInBounds_toArray, set_cons_zero, set_cons_succ, i64_w]
    rfl
   refine take_ (i := 6) (N := some 28) (v := ?_) (a' := ?_) #[true, true, true, true, true, true, true, false, false, false, false, false, false, false] rfl rfl (take_ofW HT_.out HW_.out (by kernel_rfl)) (fun _ _ _ h => h) (Or.inl ⟨by rfl, ?_⟩) hHeld ?_ ?_
   rotate_left
   ·rintro w' ⟨s0, s1, s2, s3, s4, s5⟩
    go_simp
    with_reducible rfl
   rotate_left
   ·simp only [Act.put, setIfInBounds_toArray, set_cons_zero, set_cons_succ, i64_w]
    rfl
   refine pure_ (i := 7) (N := some 29) (v := ?_) (a' := ?_) #[true, true, true, true, true, true, true, true, false, false, false, false, false, false] rfl rfl (any_of HT_.out (by kernel_rfl)) (fun _ _ _ h => h) (Or.inl ⟨by rfl, ?_⟩) ?_ ?_
   rotate_left
   ·intro w'
    go_simp
    with_reducible rfl
   rotate_left
   ·simp only [Act.put, setIfInBounds_toArray, set_cons_zero, set_cons_succ, i64_w]
    rfl
   refine one_ (i := 8) (N := some 30) #[true, true, true, true, true, true, true, true, true, false, false, false, false, false] rfl rfl (one_of HT_.out (by kernel_rfl)) (by decide) (fun K hK => ?_)
   refine goes_ Try.func69 (by kernel_rfl) rfl #[.pointer (some ⟨rb, 0, none⟩), .int .i64 f.length] (by rfl) rfl rfl (by simp only [List.map_toArray, List.map_cons, List.map_nil]; rfl) ?_
   with_reducible refine (HPK.out).mono ?_
   rintro e we ⟨j, rfl, j0, j1, hr, hg⟩
   refine ⟨_, rfl, ?_⟩
   obtain ⟨m, rfl⟩ := Int.eq_ofNat_of_zero_le j0
   have jm : m < f.length := by omega
   replace HU := Aside0.mk (blk_grown HU.out hg (fun e => hUr (Option.some.inj e)))
   replace HYB := Aside0.mk (blk_grown HYB.out hg (fun e => hYn.2.2 (Option.some.inj e)))
   replace HD := Aside0.mk (HD.out.pick hr hg HFx.out)
   clear hr hg
   refine hK.out _ _ ⟨HD.out.x0, HD.out.x1, blk_cell HYB.out 0, blk_cell HYB.out 1, (HC _ HD.out.sv).1, (HC _ HD.out.sv).2⟩ (fun hHeld => ?_)
   clear hK K
   refine norm_ (a' := ?_) ?_ ?_
   rotate_left
   ·show Act.put _ (some 30) _ = _
    simp only [Act.put, setIfInBounds_toArray, set_cons_zero, set_cons_succ, i64_w]
    rfl
   refine pure_ (i := 9) (N := some 31) (v := ?_) (a' := ?_) #[true, true, true, true, true, true, true, true, true, true, false, false, false, false] rfl rfl (any_of HT_.out (by kernel_rfl)) (fun _ _ _ h => h) (Or.inl ⟨by rfl, ?_⟩) ?_ ?_
   rotate_left
   ·intro w'
    go_simp
    with_reducible rfl
   rotate_left
   ·simp only [Act.put, setIfInBounds_toArray, set_cons_zero, set_cons_succ, i64_w]
    rfl
   refine take_ (i := 10) (N := some 32) (v := ?_) (a' := ?_) #[true, true, true, true, true, true, true, true, true, true, true, false, false, false] rfl rfl (take_ofW HT_.out HW_.out (by kernel_rfl)) (fun _ _ _ h => h) (Or.inl ⟨by rfl, ?_⟩) hHeld ?_ ?_
   rotate_left
   ·rintro w' ⟨s0, s1, s2, s3, s4, s5⟩
    go_simp
    with_reducible rfl
   rotate_left
   ·simp only [Act.put, setIfInBounds_toArray, set_cons_zero, set_cons_succ, i64_w]
    rfl
   refine one_ (i := 11) (N := some 33) #[true, true, true, true, true, true, true, true, true, true, true, true, false, false] rfl rfl (one_of HT_.out (by kernel_rfl)) (by decide) (fun K hK => ?_)
   refine goes_ Try.func89 (by kernel_rfl) rfl #[.agg #[.int .i64 t.f0, .int .i64 t.f1], .agg #[.int .i64 (tmAt f m).f0, .int .i64 (tmAt f m).f1]] (by rfl) rfl rfl (by simp only [List.map_toArray, List.map_cons, List.map_nil]; rfl) ?_
   with_reducible refine (HTJ (tmAt f m) we).mono ?_
   rintro e wf ⟨rfl, hb⟩
   refine ⟨_, rfl, ?_⟩
   replace HU := Aside0.mk (blk_below HU.out hb)
   replace HYB := Aside0.mk (blk_below HYB.out hb)
   replace HD := Aside0.mk (HD.out.below hb)
   clear hb
   have t0 := blk_cell HD.out.tb 0
   have t1 := blk_cell HD.out.tb 1
   have tf0 := blk_frozen HD.out.tb 0
   have tf1 := blk_frozen HD.out.tb 1
   refine hK.out _ _ ⟨HD.out.x0, HD.out.x1, blk_cell HYB.out 0, blk_cell HYB.out 1, (HC _ HD.out.sv).1, (HC _ HD.out.sv).2⟩ (fun hHeld => ?_)
   clear hK K
   refine norm_ (a' := ?_) ?_ ?_
   rotate_left
   ·show Act.put _ (some 33) _ = _
    simp only [Act.put, setIfInBounds_toArray, set_cons_zero, set_cons_succ, i64_w]
    rfl
   refine last_ (i := 12) (N := none) #[true, true, true, true, true, true, true, true, true, true, true, true, true, false] rfl rfl (one_of HT_.out (by kernel_rfl)) (by decide) (fun K hK => ?_)
   refine skip_ (w1 := ?_) (by rfl) rfl ?_ ?_
   rotate_left
   ·go_simp
    rfl
   have hu2 := blk_far (blk_far HU.out (p := ⟨T, 0, none⟩) (Ne.symm hTU) (.slice A9 ls.length c9)) (p := ⟨T, 1, none⟩) (Ne.symm hTU) (.slice (some ad) f.length c10)
   have u0 := blk_cell hu2 0
   have u1 := blk_cell hu2 1
   have uf0 := blk_frozen hu2 0
   have uf1 := blk_frozen hu2 1
   refine hK.out _ _ ?_
   clear hK K
   refine last_ (i := 13) (N := none) #[true, true, true, true, true, true, true, true, true, true, true, true, true, true] rfl rfl (one_of HT_.out (by kernel_rfl)) (by decide) (fun K hK => ?_)
   refine skip_ (w1 := ?_) (by rfl) rfl ?_ ?_
   rotate_left
   ·go_simp
    rfl
   refine hK.out _ _ ?_
   clear hK K
   refine done_ (done_of HT_.out (by kernel_rfl)) ?_
   generalize hzz : tJoin _ _ = z
   have hUU := blk2 hu2 (.int .i64 (z.f0)) (.int .i64 (z.f1))
   have hTT := blk_far (blk_far (blk2 HD.out.tb (.slice A9 ls.length c9) (.slice (some ad) f.length c10)) (p := ⟨U, 0, none⟩) hTU (.int .i64 (z.f0))) (p := ⟨U, 1, none⟩) hTU (.int .i64 (z.f1))
   have hsp := SpT.set2 HD.out.sp HD.out.tb (.slice A9 ls.length c9) (.slice (some ad) f.length c10)
   have hSS := SpT.s (show SpT _ V.heap.size okT _ _ ls f from ⟨R_tm2 hsp.1 hUV (.int .i64 (z.f0)) (.int .i64 (z.f1)), R_tm2 hsp.2 hUV (.int .i64 (z.f0)) (.int .i64 (z.f1))⟩)
   have hBB := below_set (g := U) (j := 1) (v := .int .i64 (z.f1)) (below_set (g := U) (j := 0) (v := .int .i64 (z.f0)) (below_set (g := T) (j := 1) (v := .slice (some ad) f.length c10) (below_set (g := T) (j := 0) (v := .slice A9 ls.length c9) (HUN.out _ HD.out.rd.bel) HTw.out) HTw.out) HUw.out) HUw.out
   go_wp2
   refine bodyPost_ret (two_cells rfl _ _ T U 26 43 #[.slice A9 ls.length c9, .slice (some ad) f.length c10] #[.int .i64 z.f0, .int .i64 z.f1] (0, 0) (0, 0) _ _ rfl hTT Try.underlying26 rfl (by kernel_rfl) rfl hUU Try.underlying43 rfl (by kernel_rfl)) rfl ?_
   exact ⟨_, _, ls, f, ⟨z.f0, z.f1⟩, rfl, hSS, HM.out.mono (by decide), hBB⟩
  ·have hfz : ¬ (f.length : Int) > 0 := by omega
   go_upto_region 6 with fail
   have y0 := blk_cell HYB.out 0
   have y1 := blk_cell HYB.out 1
   have t0 := blk_cell HD.out.tb 0
   have t1 := blk_cell HD.out.tb 1
   have tf0 := blk_frozen HD.out.tb 0
   have tf1 := blk_frozen HD.out.tb 1
   have u0 := blk_cell HU.out 0
   have u1 := blk_cell HU.out 1
   have uf0 := blk_frozen HU.out 0
   have uf1 := blk_frozen HU.out 1
   have hYT := hYn.2.1
   have hUT := Ne.symm hTU
   have hTY := Ne.symm hYT
   go_region
   have hu2 := blk_far (blk_far HU.out (p := ⟨T, 0, none⟩) hUT (.slice A9 ls.length c9)) (p := ⟨T, 1, none⟩) hUT (.slice A10 f.length c10)
   have hUU := blk2 hu2 (.int .i64 (t.f0)) (.int .i64 (t.f1))
   have hTT := blk_far (blk_far (blk2 HD.out.tb (.slice A9 ls.length c9) (.slice A10 f.length c10)) (p := ⟨U, 0, none⟩) hTU (.int .i64 (t.f0))) (p := ⟨U, 1, none⟩) hTU (.int .i64 (t.f1))
   have hsp := SpT.set2 HD.out.sp HD.out.tb (.slice A9 ls.length c9) (.slice A10 f.length c10)
   have hSS := SpT.s (show SpT _ V.heap.size okT _ _ ls f from ⟨R_tm2 hsp.1 hUV (.int .i64 (t.f0)) (.int .i64 (t.f1)), R_tm2 hsp.2 hUV (.int .i64 (t.f0)) (.int .i64 (t.f1))⟩)
   have hBB := below_set (g := U) (j := 1) (v := .int .i64 (t.f1)) (below_set (g := U) (j := 0) (v := .int .i64 (t.f0)) (below_set (g := T) (j := 1) (v := .slice A10 f.length c10) (below_set (g := T) (j := 0) (v := .slice A9 ls.length c9) (HUN.out _ HD.out.rd.bel) HTw.out) HTw.out) HUw.out) HUw.out
   go_wp2
   refine bodyPost_ret (two_cells rfl _ _ T U 26 43 #[.slice A9 ls.length c9, .slice A10 f.length c10] #[.int .i64 t.f0, .int .i64 t.f1] (0, 0) (0, 0) _ _ rfl hTT Try.underlying26 rfl (by kernel_rfl) rfl hUU Try.underlying43 rfl (by kernel_rfl)) rfl ?_
   exact ⟨_, _, ls, f, ⟨t.f0, t.f1⟩, rfl, SpS.below hSS (below_drew (Below.refl _ _)), HM.out.mono (by decide), below_drew hBB⟩
 ·go_upto_region 6 with fail
  have y0 := blk_cell HYB.out 0
  have y1 := blk_cell HYB.out 1
  have t0 := blk_cell HD.out.tb 0
  have t1 := blk_cell HD.out.tb 1
  have tf0 := blk_frozen HD.out.tb 0
  have tf1 := blk_frozen HD.out.tb 1
  have u0 := blk_cell HU.out 0
  have u1 := blk_cell HU.out 1
  have uf0 := blk_frozen HU.out 0
  have uf1 := blk_frozen HU.out 1
  have hYT := hYn.2.1
  have hUT := Ne.symm hTU
  have hTY := Ne.symm hYT
  go_region
  have hu2 := blk_far (blk_far HU.out (p := ⟨T, 0, none⟩) hUT (.slice A9 ls.length c9)) (p := ⟨T, 1, none⟩) hUT (.slice A10 f.length c10)
  have hUU := blk2 hu2 (.int .i64 (t.f0)) (.int .i64 (t.f1))
  have hTT := blk_far (blk_far (blk2 HD.out.tb (.slice A9 ls.length c9) (.slice A10 f.length c10)) (p := ⟨U, 0, none⟩) hTU (.int .i64 (t.f0))) (p := ⟨U, 1, none⟩) hTU (.int .i64 (t.f1))
  have hsp := SpT.set2 HD.out.sp HD.out.tb (.slice A9 ls.length c9) (.slice A10 f.length c10)
  have hSS := SpT.s (show SpT _ V.heap.size okT _ _ ls f from ⟨R_tm2 hsp.1 hUV (.int .i64 (t.f0)) (.int .i64 (t.f1)), R_tm2 hsp.2 hUV (.int .i64 (t.f0)) (.int .i64 (t.f1))⟩)
  have hBB := below_set (g := U) (j := 1) (v := .int .i64 (t.f1)) (below_set (g := U) (j := 0) (v := .int .i64 (t.f0)) (below_set (g := T) (j := 1) (v := .slice A10 f.length c10) (below_set (g := T) (j := 0) (v := .slice A9 ls.length c9) (HUN.out _ HD.out.rd.bel) HTw.out) HTw.out) HUw.out) HUw.out
  go_wp2
  refine bodyPost_ret (two_cells rfl _ _ T U 26 43 #[.slice A9 ls.length c9, .slice A10 f.length c10] #[.int .i64 t.f0, .int .i64 t.f1] (0, 0) (0, 0) _ _ rfl hTT Try.underlying26 rfl (by kernel_rfl) rfl hUU Try.underlying43 rfl (by kernel_rfl)) rfl ?_
  exact ⟨_, _, ls, f, ⟨t.f0, t.f1⟩, rfl, SpS.below hSS (below_drew (Below.refl _ _)), HM.out.mono (by decide), below_drew hBB⟩
end Go.Proofs.Ytkdendlgaaimbaa.X
