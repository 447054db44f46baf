/- Conditions: none. -/
import Derived.Test.YtkdendlgaaimbaaGreatYKLw
import Derived.Test.YtkdendlgaaimbaaGreatYKPlH
import Derived.Test.YtkdendlgaaimbaaGreatYKSpI
import Derived.Test.YtkdendlgaaimbaaGreatYKSpK
import Derived.RegionTactic
import Derived.BigRegion
namespace Go.Proofs.YtkdendlgaaimbaaGreat.X
open Go.RowKit Go.Proofs.YtkdendlgaaimbaaGreatW.PrintWords Go.Proofs.YtkdendlgaaimbaaGreatW.PrintLast
open List (setIfInBounds_toArray set_cons_zero set_cons_succ)
set_option linter.unusedVariables false
set_option linter.unusedSimpArgs false
theorem lwRowsT (v v2 : Value) (l : List Rw) (w : World) (h : Sl kRw w v l) (h2 : Sl kRw w v2 l) : Calls Tryz.prog 20 #[v, v2] w (RetV w (.bool true)) := by
 have := laws_lwRows v v2 l l w h h2
 rwa [decide_eq_true rfl] at this
theorem lwItemsT (v v2 : Value) (l : List It) (w : World) (h : Sl kIt w v l) (h2 : Sl kIt w v2 l) : Calls Tryz.prog 12 #[v, v2] w (RetV w (.bool true)) := by
 have := laws_lwItems v v2 l l w h h2
 rwa [decide_eq_true rfl] at this
def tb_laws_lwAsk_5.T : Bool × List (List Nat × List Nat) := (true, [([], []), ([], []), ([], []), ([1, 2], [1, 2]), ([3], [3]), ([0, 4], [0, 4]), ([5], [5]), ([6], [6]), ([6], [6]), ([7, 5, 0, 1, 2, 3, 4, 5, 6, 7], [7]), ([8, 9, 0, 1, 2, 3, 4, 5, 6, 7, 8, 9], [8])])
def tb_laws_lwAsk_5.B : List Nat := [0, 0, 0, 6, 14, 31, 63, 127, 127, 255, 1023]
theorem tb_laws_lwAsk_5.tab : rtab .any (opsOf Tryz.f19 5) = tb_laws_lwAsk_5.T := by kernel_rfl
theorem tb_laws_lwAsk_5.bits : waitsOk tb_laws_lwAsk_5.T.2 tb_laws_lwAsk_5.B = true := by kernel_rfl
def tb_laws_lwAsk_6.T : Bool × List (List Nat × List Nat) := (true, [([], []), ([], []), ([], []), ([1, 2], [1, 2]), ([3], [3]), ([0, 4], [0, 4]), ([5], [5]), ([6], [6]), ([6], [6]), ([7, 5, 0, 1, 2, 3, 4, 5, 6, 7], [7]), ([8, 9, 0, 1, 2, 3, 4, 5, 6, 7, 8, 9], [8])])
def tb_laws_lwAsk_6.B : List Nat := [0, 0, 0, 6, 14, 31, 63, 127, 127, 255, 1023]
theorem tb_laws_lwAsk_6.tab : rtab .any (opsOf Tryz.f19 6) = tb_laws_lwAsk_6.T := by kernel_rfl
theorem tb_laws_lwAsk_6.bits : waitsOk tb_laws_lwAsk_6.T.2 tb_laws_lwAsk_6.B = true := by kernel_rfl
set_option maxRecDepth 100000 in
set_option maxHeartbeats 4000000 in
theorem laws_lwAsk (u v u2 v2 : Value) (ls ls2 : List (List Rw)) (f f2 : List Tm) (w : World) (h : SpS w u v ls f) (h2 : SpS w u2 v2 ls2 f2) (hb : SpB ls f) (hb2 : SpB ls2 f2) (hq : ∀ t, tOk t = true → spMay ls2 f2 t = true → spMay ls f t = true ∧ spAt ls f t = spAt ls2 f2 t) :
  Calls Tryz.prog 19 #[.agg #[u, v], .agg #[u2, v2]] w (RetV w (.bool true)) := by
 have HOK := Aside0.mk allTm_ok
 have HQ := Aside0.mk hq
 have HX := Aside0.mk h
 have HY := Aside0.mk h2
 have HSB := Aside0.mk hb
 have HSB2 := Aside0.mk hb2
 clear h h2 hb hb2 hq
 have HB := Aside0.mk (Below.refl w.heap.size w)
 go_enter Tryz.func19, Tryz.ntmps19
 go_upto_region 1 with fail
 refine name_world fun W0 hW0 => ?_
 have hb0 : Below w.heap.size w W0 := hW0 ▸ below_alloc (below_alloc (Below.refl _ _) _) _
 have K0 : W0.heap[w.heap.size]? = some (.cells #[u, v] 26 (0, 0)) := by rw [hW0]; exact (blk_alloc (blk_new w _) _)
 obtain ⟨Y, hY⟩ : ∃ Y, Y = w.heap.size + 1 := ⟨_, rfl⟩
 have T0 : W0.heap[Y]? = some (.cells #[u2, v2] 26 (0, 0)) := by rw [hW0, hY]; have := blk_new (w.alloc (.cells #[u, v] 26 (0, 0))) (.cells #[u2, v2] 26 (0, 0)); simpa using this
 rw [← hY]
 obtain ⟨X, hX⟩ : ∃ X, X = w.heap.size := ⟨_, rfl⟩
 rw [← hX] at K0 ⊢
 have BX := Aside0.mk K0
 have BY := Aside0.mk T0
 replace HB := Aside0.mk hb0
 have HX2 := Aside0.mk (HX.out.below hb0).2
 have HY2 := Aside0.mk (HY.out.below hb0).2
 have x0 := blk_cell BX.out 0
 have x1 := blk_cell BX.out 1
 have y0 := blk_cell BY.out 0
 have y1 := blk_cell BY.out 1
 clear hW0 hX hY K0 T0 hb0
 clear HX2 HY2 x0 x1 y0 y1
 go_upto_region 2 with (go_at_call 10; ((with_reducible refine (laws_lwAll _).mono ?_); rintro e W1 ⟨vl, rfl, hr, hb⟩; have HA := Aside0.mk (Sl.of_R hr); replace HB := Aside0.mk (bthen HB.out hb); replace BX := Aside0.mk (blk_below BX.out hb); replace BY := Aside0.mk (blk_below BY.out hb); clear hr hb))
 obtain ⟨A3, c3, rfl, hc3, hC3⟩ := HA.out
 have hm3 := Kd.C_max hC3
 clear hC3
 generalize allTm = all at *
 go_wp2
 go_loopw [6] (fun i wr => ∃ k : Nat, k ≤ all.length ∧ i = .int .i64 k ∧ Aside0 (wr.heap[X]? = some (.cells #[u, v] 26 (0, 0))) ∧ Aside0 (wr.heap[Y]? = some (.cells #[u2, v2] 26 (0, 0))) ∧ Aside0 (Sl kTm wr (.slice A3 all.length c3) all) ∧ Aside0 (Below w.heap.size w wr)) (fun i _ => all.length - (intOf i).toNat)
 case atStart => exact ⟨0, Nat.zero_le _, rfl, BX, BY, HA, HB⟩
 case round =>
  clear BX BY HB HA
  obtain ⟨k, hk, rfl, BX, BY, HA, HB⟩ := hrel
  by_cases hlt : k < all.length
  ·obtain ⟨A4, c4, e4, hc4, hC4⟩ := HA.out
   cases e4
   obtain ⟨ad, y, e, HYY, h0, h1⟩ := rdTm hC4 (Below.refl _ _) hlt
   cases e
   clear hC4
   have hy := HOK.out y (List.mem_of_getElem? HYY.out)
   have HQY := Aside0.mk (HQ.out y hy)
   obtain ⟨b, l, b2, l2, hbb, hCA, hCB⟩ : ∃ (b : Bool) (l : List It) (b2 : Bool) (l2 : List It), (b2 = true → b = true ∧ l = l2) ∧ (∀ W, SpS W u v ls f → Calls Tryz.prog 11 #[.agg #[u, v], .agg #[.int .i64 y.f0, .int .i64 y.f1]] W (AtP W l b)) ∧ (∀ W, SpS W u2 v2 ls2 f2 → Calls Tryz.prog 11 #[.agg #[u2, v2], .agg #[.int .i64 y.f0, .int .i64 y.f1]] W (AtP W l2 b2)) :=
    ⟨spMay ls f y, spAt ls f y, spMay ls2 f2 y, spAt ls2 f2 y, HQY.out, fun W hW => impl_SpineAt u v ls f y W hW HSB.out, fun W hW => impl_SpineAt u2 v2 ls2 f2 y W hW HSB2.out⟩
   have HCA := Aside0.mk hCA
   have HCB := Aside0.mk hCB
   clear hCA hCB hy
   go_upto_region 5 with fail
   have y0 : wr.drew.cell? ⟨Y, 0, none⟩ = some u2 := blk_cell BY.out 0
   have y1 : wr.drew.cell? ⟨Y, 1, none⟩ = some v2 := blk_cell BY.out 1
   replace h0 : wr.drew.cell? (ad.add (k * 2)) = some (.int .i64 y.f0) := h0
   replace h1 : wr.drew.cell? ⟨(ad.add (k * 2)).block, (ad.add (k * 2)).off + 1, none⟩ = some (.int .i64 y.f1) := h1
   refine start_ (n := 11) (S := fun w' => w'.cell? ⟨Y, 0, none⟩ = some u2 ∧ w'.cell? ⟨Y, 1, none⟩ = some v2 ∧ w'.cell? (ad.add (k * 2)) = some (.int .i64 y.f0) ∧ w'.cell? ⟨(ad.add (k * 2)).block, (ad.add (k * 2)).off + 1, none⟩ = some (.int .i64 y.f1)) (ds := []) #[false, false, false, false, false, false, false, false, false, false, false] (by kernel_rfl) rfl rfl ⟨y0, y1, h0, h1⟩ (fun hHeld => ?_)
   refine with_tabW tb_laws_lwAsk_5.tab tb_laws_lwAsk_5.bits (fun HT_ HW_ => ?_)
   refine pure_ (i := 1) (N := some 20) (v := ?_) (a' := ?_) #[false, true, false, false, false, false, false, false, false, false, false] rfl rfl (any_of HT_.out (by kernel_rfl)) (fun _ _ _ h => h) (Or.inl ⟨by rfl, ?_⟩) ?_ ?_
   rotate_left
   ·intro w'
    go_simp
    with_reducible rfl
   rotate_left
   ·simp only [Act.put, setIfInBounds_toArray, set_cons_zero, set_cons_succ, i64_w]
    rfl
   refine pure_ (i := 2) (N := some 21) (v := ?_) (a' := ?_) #[false, true, true, false, false, false, false, false, false, false, false] rfl rfl (any_of HT_.out (by kernel_rfl)) (fun _ _ _ h => h) (Or.inl ⟨by rfl, ?_⟩) ?_ ?_
   rotate_left
   ·intro w'
    go_simp
    with_reducible rfl
   rotate_left
   ·simp only [Act.put, setIfInBounds_toArray, set_cons_zero, set_cons_succ, i64_w]
    rfl
   refine pure_ (i := 3) (N := some 22) (v := ?_) (a' := ?_) #[false, true, true, true, false, false, false, false, false, false, false] rfl rfl (any_of HT_.out (by kernel_rfl)) (fun _ _ _ h => h) (Or.inl ⟨by rfl, ?_⟩) ?_ ?_
   rotate_left
   ·intro w'
    go_simp
    with_reducible rfl
   rotate_left
   ·simp only [Act.put, setIfInBounds_toArray, set_cons_zero, set_cons_succ, i64_w]
    rfl
   refine take_ (i := 0) (N := some 19) (v := ?_) (a' := ?_) #[true, true, true, true, false, false, false, false, false, false, false] rfl rfl (take_ofW HT_.out HW_.out (by kernel_rfl)) (fun _ _ _ h => h) (Or.inl ⟨by rfl, ?_⟩) hHeld ?_ ?_
   rotate_left
   ·rintro w' ⟨s0, s1, s2, s3⟩
    go_simp
    with_reducible rfl
   rotate_left
   ·simp only [Act.put, setIfInBounds_toArray, set_cons_zero, set_cons_succ, i64_w]
    rfl
   refine take_ (i := 4) (N := some 23) (v := ?_) (a' := ?_) #[true, true, true, true, true, false, false, false, false, false, false] rfl rfl (take_ofW HT_.out HW_.out (by kernel_rfl)) (fun _ _ _ h => h) (Or.inl ⟨by rfl, ?_⟩) hHeld ?_ ?_
   rotate_left
   ·rintro w' ⟨s0, s1, s2, s3⟩
    go_simp
    with_reducible rfl
   rotate_left
   ·simp only [Act.put, setIfInBounds_toArray, set_cons_zero, set_cons_succ, i64_w]
    rfl
   refine one_ (i := 5) (N := some 24) #[true, true, true, true, true, true, false, false, false, false, false] rfl rfl (one_of HT_.out (by kernel_rfl)) (by decide) (fun K hK => ?_)
   refine goes_ Tryz.func11 (by kernel_rfl) rfl #[.agg #[u2, v2], .agg #[.int .i64 y.f0, .int .i64 y.f1]] (by rfl) rfl rfl (by simp only [List.map_toArray, List.map_cons, List.map_nil]; rfl) ?_
   with_reducible refine (HCB.out _ (HY.out.below (below_drew HB.out))).mono ?_
   rintro e w6 ⟨va, rfl, hr6, hb0⟩
   refine ⟨_, rfl, ?_⟩
   have hb6 := bthen (below_drew (Below.refl wr.heap.size wr)) hb0
   have HR6 := Aside0.mk (Sl.of_R hr6)
   replace BX := Aside0.mk (blk_below BX.out hb6)
   replace BY := Aside0.mk (blk_below BY.out hb6)
   replace HA := Aside0.mk (HA.out.below hb6)
   replace HB := Aside0.mk (bthen HB.out hb6)
   clear hr6
   refine hK.out _ _ ⟨pw_cell_below hb0 y0, pw_cell_below hb0 y1, pw_cell_below hb0 h0, pw_cell_below hb0 h1⟩ (fun hHeld => ?_)
   clear hK K
   refine norm_ (a' := ?_) ?_ ?_
   rotate_left
   ·show Act.put _ (some 24) _ = _
    simp only [Act.put, setIfInBounds_toArray, set_cons_zero, set_cons_succ, i64_w]
    rfl
   refine pure_ (i := 6) (N := some 18) (v := ?_) (a' := ?_) #[true, true, true, true, true, true, true, false, false, false, false] rfl rfl (any_of HT_.out (by kernel_rfl)) (fun _ _ _ h => h) (Or.inl ⟨by rfl, ?_⟩) ?_ ?_
   rotate_left
   ·intro w'
    go_simp
    with_reducible rfl
   rotate_left
   ·simp only [Act.put, setIfInBounds_toArray, set_cons_zero, set_cons_succ, i64_w]
    rfl
   refine pure_ (i := 7) (N := some 25) (v := ?_) (a' := ?_) #[true, true, true, true, true, true, true, true, false, false, false] rfl rfl (any_of HT_.out (by kernel_rfl)) (fun _ _ _ h => h) (Or.inl ⟨by rfl, ?_⟩) ?_ ?_
   rotate_left
   ·intro w'
    go_simp
    with_reducible rfl
   rotate_left
   ·simp only [Act.put, setIfInBounds_toArray, set_cons_zero, set_cons_succ, i64_w]
    rfl
   refine pure_ (i := 8) (N := some 26) (v := ?_) (a' := ?_) #[true, true, true, true, true, true, true, true, true, false, false] rfl rfl (any_of HT_.out (by kernel_rfl)) (fun _ _ _ h => h) (Or.inl ⟨by rfl, ?_⟩) ?_ ?_
   rotate_left
   ·intro w'
    go_simp
    with_reducible rfl
   rotate_left
   ·simp only [Act.put, setIfInBounds_toArray, set_cons_zero, set_cons_succ, i64_w]
    rfl
   refine pure_ (i := 9) (N := some 7) (v := ?_) (a' := ?_) #[true, true, true, true, true, true, true, true, true, true, false] rfl rfl (any_of HT_.out (by kernel_rfl)) (fun _ _ _ h => h) (Or.inl ⟨by rfl, ?_⟩) ?_ ?_
   rotate_left
   ·intro w'
    go_simp
    with_reducible rfl
   rotate_left
   ·simp only [Act.put, setIfInBounds_toArray, set_cons_zero, set_cons_succ, i64_w]
    rfl
   refine pure_ (i := 10) (N := some 8) (v := ?_) (a' := ?_) #[true, true, true, true, true, true, true, true, true, true, true] rfl rfl (any_of HT_.out (by kernel_rfl)) (fun _ _ _ h => h) (Or.inl ⟨by rfl, ?_⟩) ?_ ?_
   rotate_left
   ·intro w'
    go_simp
    with_reducible rfl
   rotate_left
   ·simp only [Act.put, setIfInBounds_toArray, set_cons_zero, set_cons_succ, i64_w]
    rfl
   refine done_ (done_of HT_.out (by kernel_rfl)) ?_
   obtain ⟨z1, z2, z3, z4⟩ := hHeld
   clear hHeld HT_ HW_ hb0 hb6 y0 y1 h0 h1 z1 z2
   go_upto_region 6 with fail
   have y0 : w6.drew.cell? ⟨X, 0, none⟩ = some u := blk_cell BX.out 0
   have y1 : w6.drew.cell? ⟨X, 1, none⟩ = some v := blk_cell BX.out 1
   have h0 : w6.drew.cell? (ad.add (k * 2)) = some (.int .i64 y.f0) := z3
   have h1 : w6.drew.cell? ⟨(ad.add (k * 2)).block, (ad.add (k * 2)).off + 1, none⟩ = some (.int .i64 y.f1) := z4
   clear z3 z4
   refine start_ (n := 11) (S := fun w' => w'.cell? ⟨X, 0, none⟩ = some u ∧ w'.cell? ⟨X, 1, none⟩ = some v ∧ w'.cell? (ad.add (k * 2)) = some (.int .i64 y.f0) ∧ w'.cell? ⟨(ad.add (k * 2)).block, (ad.add (k * 2)).off + 1, none⟩ = some (.int .i64 y.f1)) (ds := []) #[false, false, false, false, false, false, false, false, false, false, false] (by kernel_rfl) rfl rfl ⟨y0, y1, h0, h1⟩ (fun hHeld => ?_)
   refine with_tabW tb_laws_lwAsk_6.tab tb_laws_lwAsk_6.bits (fun HT_ HW_ => ?_)
   refine pure_ (i := 1) (N := some 29) (v := ?_) (a' := ?_) #[false, true, false, false, false, false, false, false, false, false, false] rfl rfl (any_of HT_.out (by kernel_rfl)) (fun _ _ _ h => h) (Or.inl ⟨by rfl, ?_⟩) ?_ ?_
   rotate_left
   ·intro w'
    go_simp
    with_reducible rfl
   rotate_left
   ·simp only [Act.put, setIfInBounds_toArray, set_cons_zero, set_cons_succ, i64_w]
    rfl
   refine pure_ (i := 2) (N := some 30) (v := ?_) (a' := ?_) #[false, true, true, false, false, false, false, false, false, false, false] rfl rfl (any_of HT_.out (by kernel_rfl)) (fun _ _ _ h => h) (Or.inl ⟨by rfl, ?_⟩) ?_ ?_
   rotate_left
   ·intro w'
    go_simp
    with_reducible rfl
   rotate_left
   ·simp only [Act.put, setIfInBounds_toArray, set_cons_zero, set_cons_succ, i64_w]
    rfl
   refine pure_ (i := 3) (N := some 31) (v := ?_) (a' := ?_) #[false, true, true, true, false, false, false, false, false, false, false] rfl rfl (any_of HT_.out (by kernel_rfl)) (fun _ _ _ h => h) (Or.inl ⟨by rfl, ?_⟩) ?_ ?_
   rotate_left
   ·intro w'
    go_simp
    with_reducible rfl
   rotate_left
   ·simp only [Act.put, setIfInBounds_toArray, set_cons_zero, set_cons_succ, i64_w]
    rfl
   refine take_ (i := 0) (N := some 28) (v := ?_) (a' := ?_) #[true, true, true, true, false, false, false, false, false, false, false] rfl rfl (take_ofW HT_.out HW_.out (by kernel_rfl)) (fun _ _ _ h => h) (Or.inl ⟨by rfl, ?_⟩) hHeld ?_ ?_
   rotate_left
   ·rintro w' ⟨s0, s1, s2, s3⟩
    go_simp
    with_reducible rfl
   rotate_left
   ·simp only [Act.put, setIfInBounds_toArray, set_cons_zero, set_cons_succ, i64_w]
    rfl
   refine take_ (i := 4) (N := some 32) (v := ?_) (a' := ?_) #[true, true, true, true, true, false, false, false, false, false, false] rfl rfl (take_ofW HT_.out HW_.out (by kernel_rfl)) (fun _ _ _ h => h) (Or.inl ⟨by rfl, ?_⟩) hHeld ?_ ?_
   rotate_left
   ·rintro w' ⟨s0, s1, s2, s3⟩
    go_simp
    with_reducible rfl
   rotate_left
   ·simp only [Act.put, setIfInBounds_toArray, set_cons_zero, set_cons_succ, i64_w]
    rfl
   refine one_ (i := 5) (N := some 33) #[true, true, true, true, true, true, false, false, false, false, false] rfl rfl (one_of HT_.out (by kernel_rfl)) (by decide) (fun K hK => ?_)
   refine goes_ Tryz.func11 (by kernel_rfl) rfl #[.agg #[u, v], .agg #[.int .i64 y.f0, .int .i64 y.f1]] (by rfl) rfl rfl (by simp only [List.map_toArray, List.map_cons, List.map_nil]; rfl) ?_
   with_reducible refine (HCA.out _ (HX.out.below (below_drew HB.out))).mono ?_
   rintro e w7 ⟨vb, rfl, hr7, hb0⟩
   refine ⟨_, rfl, ?_⟩
   have hb7 := bthen (below_drew (Below.refl w6.heap.size w6)) hb0
   have HR7 := Aside0.mk (Sl.of_R hr7)
   replace HR6 := Aside0.mk (HR6.out.below hb7)
   replace BX := Aside0.mk (blk_below BX.out hb7)
   replace BY := Aside0.mk (blk_below BY.out hb7)
   replace HA := Aside0.mk (HA.out.below hb7)
   replace HB := Aside0.mk (bthen HB.out hb7)
   clear hr7
   refine hK.out _ _ ⟨pw_cell_below hb0 y0, pw_cell_below hb0 y1, pw_cell_below hb0 h0, pw_cell_below hb0 h1⟩ (fun hHeld => ?_)
   clear hK K
   refine norm_ (a' := ?_) ?_ ?_
   rotate_left
   ·show Act.put _ (some 33) _ = _
    simp only [Act.put, setIfInBounds_toArray, set_cons_zero, set_cons_succ, i64_w]
    rfl
   refine pure_ (i := 6) (N := some 27) (v := ?_) (a' := ?_) #[true, true, true, true, true, true, true, false, false, false, false] rfl rfl (any_of HT_.out (by kernel_rfl)) (fun _ _ _ h => h) (Or.inl ⟨by rfl, ?_⟩) ?_ ?_
   rotate_left
   ·intro w'
    go_simp
    with_reducible rfl
   rotate_left
   ·simp only [Act.put, setIfInBounds_toArray, set_cons_zero, set_cons_succ, i64_w]
    rfl
   refine pure_ (i := 7) (N := some 34) (v := ?_) (a' := ?_) #[true, true, true, true, true, true, true, true, false, false, false] rfl rfl (any_of HT_.out (by kernel_rfl)) (fun _ _ _ h => h) (Or.inl ⟨by rfl, ?_⟩) ?_ ?_
   rotate_left
   ·intro w'
    go_simp
    with_reducible rfl
   rotate_left
   ·simp only [Act.put, setIfInBounds_toArray, set_cons_zero, set_cons_succ, i64_w]
    rfl
   refine pure_ (i := 8) (N := some 35) (v := ?_) (a' := ?_) #[true, true, true, true, true, true, true, true, true, false, false] rfl rfl (any_of HT_.out (by kernel_rfl)) (fun _ _ _ h => h) (Or.inl ⟨by rfl, ?_⟩) ?_ ?_
   rotate_left
   ·intro w'
    go_simp
    with_reducible rfl
   rotate_left
   ·simp only [Act.put, setIfInBounds_toArray, set_cons_zero, set_cons_succ, i64_w]
    rfl
   refine pure_ (i := 9) (N := some 9) (v := ?_) (a' := ?_) #[true, true, true, true, true, true, true, true, true, true, false] rfl rfl (any_of HT_.out (by kernel_rfl)) (fun _ _ _ h => h) (Or.inl ⟨by rfl, ?_⟩) ?_ ?_
   rotate_left
   ·intro w'
    go_simp
    with_reducible rfl
   rotate_left
   ·simp only [Act.put, setIfInBounds_toArray, set_cons_zero, set_cons_succ, i64_w]
    rfl
   refine pure_ (i := 10) (N := some 10) (v := ?_) (a' := ?_) #[true, true, true, true, true, true, true, true, true, true, true] rfl rfl (any_of HT_.out (by kernel_rfl)) (fun _ _ _ h => h) (Or.inl ⟨by rfl, ?_⟩) ?_ ?_
   rotate_left
   ·intro w'
    go_simp
    with_reducible rfl
   rotate_left
   ·simp only [Act.put, setIfInBounds_toArray, set_cons_zero, set_cons_succ, i64_w]
    rfl
   refine done_ (done_of HT_.out (by kernel_rfl)) ?_
   clear hHeld HT_ HW_ hb0 hb7 y0 y1 h0 h1
   cases b2
   ·go_wp2
    go_roundw
    case rel => exact ⟨k + 1, by omega, by go_num, BX, BY, HA, HB⟩
    case measure => simp [intOf]; omega
   ·obtain ⟨e1, e2⟩ := hbb rfl
    subst e1
    subst e2
    have HCL := Aside0.mk (lwItemsT vb va l w7 HR7.out HR6.out)
    go_wp2_with (go_at_call 12; ((with_reducible refine HCL.out.mono ?_); rintro e w8 ⟨rfl, hb⟩; replace BX := Aside0.mk (blk_below BX.out hb); replace BY := Aside0.mk (blk_below BY.out hb); replace HA := Aside0.mk (HA.out.below hb); replace HB := Aside0.mk (bthen HB.out hb); clear hb))
    go_roundw
    case rel => exact ⟨k + 1, by omega, by go_num, BX, BY, HA, HB⟩
    case measure => simp [intOf]; omega
  ·go_wp2
   go_ret
   exact RetV.mk rfl HB.out
theorem spOkI (u v : Value) (ls : List (List Rw)) (f : List Tm) (w : World) {b : Bool} (h : SpS w u v ls f) (hl : ls.length ≤ 1048576) (hok : spineOk ls f = b) : Calls Tryz.prog 16 #[.agg #[u, v]] w (RetV w (.bool b)) := by
 have := impl_SpineOk u v ls f w h.1 h.2 (Nat.le_trans hl (by decide))
 rwa [hok] at this
theorem spOkS (u v : Value) (ls : List (List Rw)) (f : List Tm) (w : World) {b : Bool} (h : SpS w u v ls f) (hok : spineOk ls f = b) : Calls Tryz.prog 17 #[.agg #[u, v]] w (RetV w (.bool b)) := by
 have := spec_SpineOk u v ls f w h.1 h.2
 rwa [hok] at this
theorem SpS.form {w : World} {u v : Value} {ls : List (List Rw)} {f : List Tm} (h : SpS w u v ls f) : ∃ A c A' c', u = .slice A ls.length c ∧ v = .slice A' f.length c' := by
 obtain ⟨⟨A, c, e, _, _⟩, A', c', e', _, _⟩ := h
 exact ⟨A, c, A', c', e, e'⟩
theorem ask_same {ls L : List (List Rw)} {f : List Tm} (h1 : SpOk ls f) (h2 : SpOk L f) (hp : ∀ t, tOk t = true → askOk f t = true → present (flatL ls) t = present (flatL L) t) : ∀ t, tOk t = true → spMay ls f t = true → spMay L f t = true ∧ spAt L f t = spAt ls f t := fun t ht hm => by
 have hm2 := hm
 unfold spMay at hm
 simp only [Bool.and_eq_true] at hm
 have hl : spMay L f t = true := by
  unfold spMay
  rw [spineOk_iff.2 h2, ht, hm.2]; rfl
 refine ⟨hl, ?_⟩
 unfold spAt
 rw [if_pos hl, if_pos hm2]
 exact (hp t ht hm.2).symm
theorem SpS.tm {w : World} {u v : Value} {ls : List (List Rw)} {f : List Tm} (h : SpS w u v ls f) : Sl kTm w v f := h.2
theorem SpS.lay {w : World} {A : Option Addr} {c : Nat} {v : Value} {ls : List (List Rw)} {f : List Tm} (h : SpS w (.slice A ls.length c) v ls f) {k : Nat} (hk : k < ls.length) : ∃ ad B d, A = some ad ∧ w.cell? (ad.add k) = some (.slice B (lay ls k).length d) ∧ Sl kRw w (.slice B (lay ls k).length d) (lay ls k) := by
 obtain ⟨A', c', e, _, hC⟩ := h.1
 cases e
 exact rdLay hC hk
end Go.Proofs.YtkdendlgaaimbaaGreat.X
