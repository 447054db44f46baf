/- Conditions: none. -/
import Derived.Test.YtkdendlgaaimbaaGreatYILw
import Derived.Test.YtkdendlgaaimbaaGreatYIPlH
import Derived.Test.YtkdendlgaaimbaaGreatYISpM
import Derived.RegionTactic
import Derived.BigRegion
namespace Go.Proofs.YtkdendlgaaimbaaGreat.X
open Go.RowKit Go.Proofs.YtkdendlgaaimbaaGreatW.PrintWords Go.Proofs.YtkdendlgaaimbaaGreatW.PrintLast
open List (setIfInBounds_toArray set_cons_zero set_cons_succ)
set_option linter.unusedVariables false
set_option linter.unusedSimpArgs false
theorem lwRowsT (v v2 : Value) (l : List Rw) (w : World) (h : Sl kRw w v l) (h2 : Sl kRw w v2 l) : Calls Tryz.prog 20 #[v, v2] w (RetV w (.bool true)) := by
 have := laws_lwRows v v2 l l w h h2
 rwa [decide_eq_true rfl] at this
theorem lwTimesT (v v2 : Value) (l : List Tm) (w : World) (h : Sl kTm w v l) (h2 : Sl kTm w v2 l) : Calls Tryz.prog 37 #[v, v2] w (RetV w (.bool true)) := by
 have := laws_lwTimes v v2 l l w h h2
 rwa [decide_eq_true rfl] at this
def tb_laws_lwSpine_6.T : Bool × List (List Nat × List Nat) := (true, [([], []), ([0], [0]), ([], []), ([1, 2], [1, 2]), ([3], [3]), ([], []), ([5], [5]), ([], []), ([6, 7], [6, 7]), ([8], [8]), ([4, 9], [4, 9]), ([10], [10])])
def tb_laws_lwSpine_6.B : List Nat := [0, 1, 0, 7, 15, 0, 32, 0, 224, 480, 1023, 2047]
theorem tb_laws_lwSpine_6.tab : rtab .any (opsOf Tryz.f9 6) = tb_laws_lwSpine_6.T := by kernel_rfl
theorem tb_laws_lwSpine_6.bits : waitsOk tb_laws_lwSpine_6.T.2 tb_laws_lwSpine_6.B = true := by kernel_rfl
set_option maxRecDepth 100000 in
set_option maxHeartbeats 4000000 in
theorem laws_lwSpine (u v u2 v2 : Value) (ls : List (List Rw)) (f : List Tm) (w : World) (h : SpS w u v ls f) (h2 : SpS w u2 v2 ls f) : Calls Tryz.prog 9 #[.agg #[u, v], .agg #[u2, v2]] w (RetV w (.bool true)) := by
 have HX := Aside0.mk h
 have HY := Aside0.mk h2
 obtain ⟨⟨A, c, rfl, hc, hr⟩, A2, c2, rfl, hc2, hr2⟩ := h
 obtain ⟨⟨A3, c3, rfl, hc3, hr3⟩, A4, c4, rfl, hc4, hr4⟩ := h2
 have hm := Kd.C_max hr
 clear hr hr2 hr3 hr4
 have HB := Aside0.mk (Below.refl w.heap.size w)
 go_enter Tryz.func9, Tryz.ntmps9
 go_upto_region 1 with fail
 refine name_world fun W0 hW0 => ?_
 have hb0 : Below w.heap.size w W0 := hW0 ▸ below_alloc (below_alloc (Below.refl _ _) _) _
 have K0 : W0.heap[w.heap.size]? = some (.cells #[.slice A ls.length c, .slice A2 f.length c2] 26 (0, 0)) := by rw [hW0]; exact (blk_alloc (blk_new w _) _)
 obtain ⟨Y, hY⟩ : ∃ Y, Y = w.heap.size + 1 := ⟨_, rfl⟩
 have T0 : W0.heap[Y]? = some (.cells #[.slice A3 ls.length c3, .slice A4 f.length c4] 26 (0, 0)) := by rw [hW0, hY]; have := blk_new (w.alloc (.cells #[.slice A ls.length c, .slice A2 f.length c2] 26 (0, 0))) (.cells #[.slice A3 ls.length c3, .slice A4 f.length c4] 26 (0, 0)); simpa using this
 rw [← hY]
 obtain ⟨X, hX⟩ : ∃ X, X = w.heap.size := ⟨_, rfl⟩
 rw [← hX] at K0 ⊢
 have BX := Aside0.mk K0
 have BY := Aside0.mk T0
 replace HB := Aside0.mk hb0
 have HX2 := Aside0.mk (HX.out.below hb0).2
 have HY2 := Aside0.mk (HY.out.below hb0).2
 have x0 := blk_cell BX.out 0
 have x1 := blk_cell BX.out 1
 have y0 := blk_cell BY.out 0
 have y1 := blk_cell BY.out 1
 clear hW0 hX hY K0 T0 hb0
 go_upto_region 3 with (go_at_call 37; ((with_reducible refine (lwTimesT (.slice A2 f.length c2) (.slice A4 f.length c4) f _ HX2.out HY2.out).mono ?_); rintro e W1 ⟨rfl, hb⟩; replace HB := Aside0.mk (bthen HB.out hb); replace BX := Aside0.mk (blk_below BX.out hb); replace BY := Aside0.mk (blk_below BY.out hb); clear hb))
 clear HX2 HY2 x0 x1 y0 y1
 go_wp2
 go_loopw [5] (fun i wr => ∃ k : Nat, k ≤ ls.length ∧ i = .int .i64 k ∧ Aside0 (wr.heap[X]? = some (.cells #[.slice A ls.length c, .slice A2 f.length c2] 26 (0, 0))) ∧ Aside0 (wr.heap[Y]? = some (.cells #[.slice A3 ls.length c3, .slice A4 f.length c4] 26 (0, 0))) ∧ Aside0 (Below w.heap.size w wr)) (fun i _ => ls.length - (intOf i).toNat)
 case atStart => exact ⟨0, Nat.zero_le _, rfl, BX, BY, HB⟩
 case round =>
  clear BX BY HB
  obtain ⟨k, hk, rfl, BX, BY, HB⟩ := hrel
  have x0 := blk_cell BX.out 0
  have y0 := blk_cell BY.out 0
  by_cases hlt : k < ls.length
  ·obtain ⟨A', c', e, _, hC⟩ := (HX.out.1.below HB.out)
   cases e
   obtain ⟨ad, B0, d0, e, l0, S0⟩ := rdLay hC hlt
   cases e
   obtain ⟨A', c', e, _, hC2⟩ := (HY.out.1.below HB.out)
   cases e
   obtain ⟨ad2, B1, d1, e, l1, S1⟩ := rdLay hC2 hlt
   cases e
   have HS0 := Aside0.mk S0
   have HS1 := Aside0.mk S1
   clear hC hC2 S0 S1
   go_upto_region 6 with fail
   replace x0 : wr.drew.cell? ⟨X, 0, none⟩ = some (.slice (some ad) ls.length c) := x0
   replace y0 : wr.drew.cell? ⟨Y, 0, none⟩ = some (.slice (some ad2) ls.length c3) := y0
   replace l0 : wr.drew.cell? (ad.add k) = some (.slice B0 (lay ls k).length d0) := l0
   replace l1 : wr.drew.cell? (ad2.add k) = some (.slice B1 (lay ls k).length d1) := l1
   have HCL := Aside0.mk (lwRowsT (.slice B0 (lay ls k).length d0) (.slice B1 (lay ls k).length d1) (lay ls k) wr.drew (HS0.out.below (below_drew (Below.refl _ _))) (HS1.out.below (below_drew (Below.refl _ _))))
   refine start_ (n := 12) (S := fun w' => w'.cell? ⟨X, 0, none⟩ = some (.slice (some ad) ls.length c) ∧ w'.cell? ⟨Y, 0, none⟩ = some (.slice (some ad2) ls.length c3) ∧ w'.cell? (ad.add k) = some (.slice B0 (lay ls k).length d0) ∧ w'.cell? (ad2.add k) = some (.slice B1 (lay ls k).length d1)) (ds := []) #[false, false, false, false, false, false, false, false, false, false, false, false] (by kernel_rfl) rfl rfl ⟨x0, y0, l0, l1⟩ (fun hHeld => ?_)
   refine with_tabW tb_laws_lwSpine_6.tab tb_laws_lwSpine_6.bits (fun HT_ HW_ => ?_)
   refine pure_ (i := 0) (N := some 28) (v := ?_) (a' := ?_) #[true, false, false, false, false, false, false, false, false, false, false, false] rfl rfl (any_of HT_.out (by kernel_rfl)) (fun _ _ _ h => h) (Or.inl ⟨by rfl, ?_⟩) ?_ ?_
   rotate_left; (intro w'; go_simp; with_reducible rfl); rotate_left; (simp only [Act.put, setIfInBounds_toArray, set_cons_zero, set_cons_succ, i64_w]; rfl)
   refine pure_ (i := 2) (N := some 30) (v := ?_) (a' := ?_) #[true, false, true, false, false, false, false, false, false, false, false, false] rfl rfl (any_of HT_.out (by kernel_rfl)) (fun _ _ _ h => h) (Or.inl ⟨by rfl, ?_⟩) ?_ ?_
   rotate_left; (intro w'; go_simp; with_reducible rfl); rotate_left; (simp only [Act.put, setIfInBounds_toArray, set_cons_zero, set_cons_succ, i64_w]; rfl)
   refine pure_ (i := 5) (N := some 33) (v := ?_) (a' := ?_) #[true, false, true, false, false, true, false, false, false, false, false, false] rfl rfl (any_of HT_.out (by kernel_rfl)) (fun _ _ _ h => h) (Or.inl ⟨by rfl, ?_⟩) ?_ ?_
   rotate_left; (intro w'; go_simp; with_reducible rfl); rotate_left; (simp only [Act.put, setIfInBounds_toArray, set_cons_zero, set_cons_succ, i64_w]; rfl)
   refine pure_ (i := 7) (N := some 35) (v := ?_) (a' := ?_) #[true, false, true, false, false, true, false, true, false, false, false, false] rfl rfl (any_of HT_.out (by kernel_rfl)) (fun _ _ _ h => h) (Or.inl ⟨by rfl, ?_⟩) ?_ ?_
   rotate_left; (intro w'; go_simp; with_reducible rfl); rotate_left; (simp only [Act.put, setIfInBounds_toArray, set_cons_zero, set_cons_succ, i64_w]; rfl)
   refine take_ (i := 1) (N := some 29) (v := ?_) (a' := ?_) #[true, true, true, false, false, true, false, true, false, false, false, false] rfl rfl (take_ofW HT_.out HW_.out (by kernel_rfl)) (fun _ _ _ h => h) (Or.inl ⟨by rfl, ?_⟩) hHeld ?_ ?_
   rotate_left; (rintro w' ⟨s0, s1, s2, s3⟩; go_simp; with_reducible rfl); rotate_left; (simp only [Act.put, setIfInBounds_toArray, set_cons_zero, set_cons_succ, i64_w]; rfl)
   refine pure_ (i := 3) (N := some 31) (v := ?_) (a' := ?_) #[true, true, true, true, false, true, false, true, false, false, false, false] rfl rfl (any_of HT_.out (by kernel_rfl)) (fun _ _ _ h => h) (Or.inl ⟨by rfl, ?_⟩) ?_ ?_
   rotate_left; (intro w'; go_simp; with_reducible rfl); rotate_left; (simp only [Act.put, setIfInBounds_toArray, set_cons_zero, set_cons_succ, i64_w]; rfl)
   refine take_ (i := 4) (N := some 32) (v := ?_) (a' := ?_) #[true, true, true, true, true, true, false, true, false, false, false, false] rfl rfl (take_ofW HT_.out HW_.out (by kernel_rfl)) (fun _ _ _ h => h) (Or.inl ⟨by rfl, ?_⟩) hHeld ?_ ?_
   rotate_left; (rintro w' ⟨s0, s1, s2, s3⟩; go_simp; with_reducible rfl); rotate_left; (simp only [Act.put, setIfInBounds_toArray, set_cons_zero, set_cons_succ, i64_w]; rfl)
   refine take_ (i := 6) (N := some 34) (v := ?_) (a' := ?_) #[true, true, true, true, true, true, true, true, false, false, false, false] rfl rfl (take_ofW HT_.out HW_.out (by kernel_rfl)) (fun _ _ _ h => h) (Or.inl ⟨by rfl, ?_⟩) hHeld ?_ ?_
   rotate_left; (rintro w' ⟨s0, s1, s2, s3⟩; go_simp; with_reducible rfl); rotate_left; (simp only [Act.put, setIfInBounds_toArray, set_cons_zero, set_cons_succ, i64_w]; rfl)
   refine pure_ (i := 8) (N := some 36) (v := ?_) (a' := ?_) #[true, true, true, true, true, true, true, true, true, false, false, false] rfl rfl (any_of HT_.out (by kernel_rfl)) (fun _ _ _ h => h) (Or.inl ⟨by rfl, ?_⟩) ?_ ?_
   rotate_left; (intro w'; go_simp; with_reducible rfl); rotate_left; (simp only [Act.put, setIfInBounds_toArray, set_cons_zero, set_cons_succ, i64_w]; rfl)
   refine take_ (i := 9) (N := some 37) (v := ?_) (a' := ?_) #[true, true, true, true, true, true, true, true, true, true, false, false] rfl rfl (take_ofW HT_.out HW_.out (by kernel_rfl)) (fun _ _ _ h => h) (Or.inl ⟨by rfl, ?_⟩) hHeld ?_ ?_
   rotate_left; (rintro w' ⟨s0, s1, s2, s3⟩; go_simp; with_reducible rfl); rotate_left; (simp only [Act.put, setIfInBounds_toArray, set_cons_zero, set_cons_succ, i64_w]; rfl)
   refine one_ (i := 10) (N := some 38) #[true, true, true, true, true, true, true, true, true, true, true, false] rfl rfl (one_of HT_.out (by kernel_rfl)) (by decide) (fun K hK => ?_)
   refine goes_ Tryz.func20 (by kernel_rfl) rfl #[.slice B0 (lay ls k).length d0, .slice B1 (lay ls k).length d1] (by rfl) rfl rfl (by simp only [List.map_toArray, List.map_cons, List.map_nil]; rfl) ?_
   with_reducible refine (HCL.out).mono ?_
   rintro e w6 ⟨rfl, hb0⟩
   refine ⟨_, rfl, ?_⟩
   have hb6 := bthen (below_drew (Below.refl wr.heap.size wr)) hb0
   have BX6 := Aside0.mk (blk_below BX.out hb6)
   have BY6 := Aside0.mk (blk_below BY.out hb6)
   have HB6 := Aside0.mk (bthen HB.out hb6)
   refine hK.out _ _ ⟨pw_cell_below hb0 x0, pw_cell_below hb0 y0, pw_cell_below hb0 l0, pw_cell_below hb0 l1⟩ (fun hHeld => ?_)
   clear hK K
   refine norm_ (a' := ?_) ?_ ?_
   rotate_left
   ·show Act.put _ (some 38) _ = _
    simp only [Act.put, setIfInBounds_toArray, set_cons_zero, set_cons_succ, i64_w]
    rfl
   refine pure_ (i := 11) (N := some 39) (v := ?_) (a' := ?_) #[true, true, true, true, true, true, true, true, true, true, true, true] rfl rfl (any_of HT_.out (by kernel_rfl)) (fun _ _ _ h => h) (Or.inl ⟨by rfl, ?_⟩) ?_ ?_
   rotate_left; (intro w'; go_simp; with_reducible rfl); rotate_left; (simp only [Act.put, setIfInBounds_toArray, set_cons_zero, set_cons_succ, i64_w]; rfl)
   refine done_ (done_of HT_.out (by kernel_rfl)) ?_
   clear hHeld HT_ HW_ hb0 hb6 x0 y0 l0 l1
   go_wp2
   go_roundw
   case rel => exact ⟨k + 1, by omega, by go_num, BX6, BY6, HB6⟩
   case measure => simp [intOf]; omega
  ·go_wp2
   go_ret
   exact RetV.mk rfl HB.out
theorem lwItemsT (v v2 : Value) (l : List It) (w : World) (h : Sl kIt w v l) (h2 : Sl kIt w v2 l) : Calls Tryz.prog 12 #[v, v2] w (RetV w (.bool true)) := by
 have := laws_lwItems v v2 l l w h h2
 rwa [decide_eq_true rfl] at this
theorem SpS.form {w : World} {u v : Value} {ls : List (List Rw)} {f : List Tm} (h : SpS w u v ls f) : ∃ A c A' c', u = .slice A ls.length c ∧ v = .slice A' f.length c' := by
 obtain ⟨⟨A, c, e, _, _⟩, A', c', e', _, _⟩ := h
 exact ⟨A, c, A', c', e, e'⟩
end Go.Proofs.YtkdendlgaaimbaaGreat.X
