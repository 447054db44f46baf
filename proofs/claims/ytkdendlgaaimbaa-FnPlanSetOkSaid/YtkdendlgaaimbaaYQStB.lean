/- Conditions: none. -/
import Derived.Test.YtkdendlgaaimbaaYQSb
import Derived.RegionTactic
import Derived.BigRegion
namespace Go.Proofs.Ytkdendlgaaimbaa.X
open Go.RowKit Go.Proofs.YtkdendlgaaimbaaW.PrintWords Go.Proofs.YtkdendlgaaimbaaW.PrintLast
open List (setIfInBounds_toArray set_cons_zero set_cons_succ)
set_option linter.unusedVariables false
set_option linter.unusedSimpArgs false
set_option maxRecDepth 100000 in
set_option maxHeartbeats 2000000 in
theorem spec_SetBoth (v v2 : Value) (s t : List It) (w : World) (h : Sl kIt w v s) (h2 : Sl kIt w v2 t) : Calls Try.prog 150 #[v, v2] w (RetR kIt 118 w (setBoth s t)) := by
 have HS := Aside0.mk h
 have HT := Aside0.mk h2
 obtain ⟨A, c_, rfl, HC, hr⟩ := h
 have hm := Kd.C_max hr
 have HR := Aside0.mk hr
 clear hr
 obtain ⟨A2, c2_, rfl, HC2, hr2⟩ := h2
 have hm2 := Kd.C_max hr2
 have HR2 := Aside0.mk hr2
 clear hr2
 cases hs : setOk s
 ·have HB := Aside0.mk (Below.refl w.heap.size w)
  go_enter Try.func150, Try.ntmps150
  go_wp2_with (go_at_call 103; ((with_reducible refine (spec_SetOk _ s _ HS.out).mono ?_); rintro e wb ⟨rfl, hb⟩; replace HB := Aside0.mk (bthen HB.out hb); (have HN := Aside0.mk (R_none (d := kIt) (e := 118) (base := w.heap.size) (ok := okT) (blk_new wb (.cells #[] 118)) HB.out.size trivial); replace HB := Aside0.mk (below_alloc HB.out (.cells #[] 118))); clear hb))
  go_ret
  exact RetR.mk (by rw [setBoth, hs]; exact HN.out) HB.out
 ·cases ht : setOk t
  ·have HB := Aside0.mk (Below.refl w.heap.size w)
   go_enter Try.func150, Try.ntmps150
   go_wp2_with (first | (go_at_call 103; ((with_reducible refine (spec_SetOk (.slice A s.length c_) s _ (HS.out.below HB.out)).mono ?_); rintro e w' ⟨rfl, hb⟩; replace HB := Aside0.mk (bthen HB.out hb); clear hb)) | (go_at_call 103; ((with_reducible refine (spec_SetOk _ t _ (HT.out.below HB.out)).mono ?_); rintro e wb ⟨rfl, hb⟩; replace HB := Aside0.mk (bthen HB.out hb); (have HN := Aside0.mk (R_none (d := kIt) (e := 118) (base := w.heap.size) (ok := okT) (blk_new wb (.cells #[] 118)) HB.out.size trivial); replace HB := Aside0.mk (below_alloc HB.out (.cells #[] 118))); clear hb)))
   go_ret
   exact RetR.mk (by rw [setBoth, hs, ht]; exact HN.out) HB.out
  ·have hl1 := setOk_len hs
   have hl2 := setOk_len ht
   have HB := Aside0.mk (Below.refl w.heap.size w)
   go_enter Try.func150, Try.ntmps150
   go_wp2_with (first
    | (go_at_call 103; ((with_reducible refine (spec_SetOk (.slice A s.length c_) s _ (HS.out.below HB.out)).mono ?_); rintro e w' ⟨rfl, hb⟩; replace HB := Aside0.mk (bthen HB.out hb); clear hb))
    | (go_at_call 103; ((with_reducible refine (spec_SetOk (.slice A2 t.length c2_) t _ (HT.out.below HB.out)).mono ?_); rintro e wb ⟨rfl, hb⟩; replace HB := Aside0.mk (bthen HB.out hb); (have HN := Aside0.mk (R_none (d := kIt) (e := 118) (base := w.heap.size) (ok := okT) (blk_new wb (.cells #[] 118)) HB.out.size trivial); replace HB := Aside0.mk (below_alloc HB.out (.cells #[] 118))); clear hb))
    | (at_builtin; refine appsIt (w0 := w) (base := w.heap.size) (xs := []) (ys := s) (ok := okT) rfl rfl (HS.out.below HB.out) HN.out (fun _ _ => trivial) HB.out HB.out.size (by first | omega | (simp; omega)) ?_; intro v1 w' hr1 hb1 hg1 ha1; have HN1 := Aside0.mk hr1; replace HB := Aside0.mk hb1; clear hr1 hb1 hg1 ha1)
    | (at_builtin; refine appsIt (w0 := w) (base := w.heap.size) (xs := [] ++ s) (ys := t) (ok := okT) rfl rfl (HT.out.below HB.out) HN1.out (fun _ _ => trivial) HB.out HB.out.size (by first | omega | (simp; omega)) ?_; intro v2 w' hr1 hb1 hg1 ha1; have HN2 := Aside0.mk hr1; replace HB := Aside0.mk hb1; clear hr1 hb1 hg1 ha1)
    | (go_at_call 140; ((with_reducible refine (spec_l2Items _ (s ++ t) _ (Sl.of_R HN2.out) (by simp; omega)).mono ?_); rintro e w' ⟨u, rfl, hr, hb⟩; have HF := Aside0.mk (Kd.R_lower hr HB.out.size); replace HB := Aside0.mk (bthen HB.out hb); clear hr hb)))
   go_ret
   exact RetR.mk (by rw [setBoth, hs, ht]; exact HF.out) HB.out
def tb_spec_SetLess_5.T : Bool × List (List Nat × List Nat) := (true, [([], []), ([], []), ([], []), ([1, 2], [1, 2]), ([3], [3]), ([4], [4]), ([], []), ([], []), ([6, 7], [6, 7]), ([8], [8]), ([9], [9]), ([], []), ([], []), ([11, 12], [11, 12]), ([13], [13]), ([14], [14]), ([15], [15]), ([5, 10, 16], [5, 10, 16]), ([17], [17]), ([0, 18], [0, 18]), ([19, 19, 0, 1, 2, 3, 4, 5, 6, 7, 8, 9, 10, 11, 12, 13, 14, 15, 16, 17, 18, 19], [0, 19])])
def tb_spec_SetLess_5.B : List Nat := [0, 0, 0, 6, 14, 30, 0, 0, 192, 448, 960, 0, 0, 6144, 14336, 30720, 63488, 131070, 262142, 524287, 1048575]
theorem tb_spec_SetLess_5.tab : rtab .any (opsOf Try.f151 5) = tb_spec_SetLess_5.T := by kernel_rfl
theorem tb_spec_SetLess_5.bits : waitsOk tb_spec_SetLess_5.T.2 tb_spec_SetLess_5.B = true := by kernel_rfl
set_option maxRecDepth 100000 in
set_option maxHeartbeats 4000000 in
theorem spec_SetLess (v : Value) (s : List It) (w : World) (h : Sl kIt w v s) : Calls Try.prog 151 #[v] w (RetR kIt 118 w (setLess s)) := by
 have HS := Aside0.mk h
 obtain ⟨A, c_, rfl, HC, hr⟩ := h
 have hm := Kd.C_max hr
 have HR := Aside0.mk hr
 clear hr
 have HN := Aside0.mk (R_none (d := kIt) (e := 118) (base := w.heap.size) (ok := okT) (blk_new w (.cells #[] 118)) (Nat.le_refl _) trivial)
 cases hs : setOk s
 ·have HSF := Aside0.mk hs
  have HB := Aside0.mk (Below.refl w.heap.size w)
  go_enter Try.func151, Try.ntmps151
  replace HB := Aside0.mk (below_alloc HB.out (.cells #[] 118))
  go_wp2
  go_loopw [3, 4] (fun o i wr => i = .int .i64 0 ∧ Aside0 (kIt.R 118 wr w.heap.size okT o []) ∧ Aside0 (Below w.heap.size w wr)) (fun _ i _ => 1)
  case atStart => exact ⟨rfl, HN, HB⟩
  case round =>
   clear HB HN
   obtain ⟨rfl, HO, HB⟩ := hrel
   by_cases hlt : 0 < s.length
   ·have hlt2 : (0 : Int) < (s.length : Int) := by omega
    go_wp2_with (go_at_call 103; ((with_reducible refine (spec_SetOk _ s _ (HS.out.below HB.out)).mono ?_); rintro e w' ⟨rfl, hb⟩; replace HB := Aside0.mk (bthen HB.out hb); replace HO := Aside0.mk (Kd.R_below HO.out hb); clear hb))
    go_ret
    exact RetR.mk (by rw [setLess, HSF.out]; exact HO.out) HB.out
   ·have hlt2 : ¬ (0 : Int) < (s.length : Int) := by omega
    go_wp2
    go_ret
    exact RetR.mk (by rw [setLess, HSF.out]; exact HO.out) HB.out
 ·have HSF := Aside0.mk hs
  have hl1 := setOk_len hs
  have HB := Aside0.mk (Below.refl w.heap.size w)
  go_enter Try.func151, Try.ntmps151
  replace HB := Aside0.mk (below_alloc HB.out (.cells #[] 118))
  go_wp2
  go_loopw [3, 4] (fun o i wr => ∃ k : Nat, k ≤ s.length ∧ i = .int .i64 k ∧ Aside0 (kIt.R 118 wr w.heap.size okT o ((s.take k).map negI)) ∧ Aside0 (Below w.heap.size w wr)) (fun _ i _ => s.length - (intOf i).toNat)
  case atStart => exact ⟨0, Nat.zero_le _, rfl, HN, HB⟩
  case round =>
   clear HB HN
   obtain ⟨k, hk, rfl, HO, HB⟩ := hrel
   have hpl : ((s.take k).map negI).length ≤ 400 := by rw [List.length_map, List.length_take]; omega
   by_cases hlt : k < s.length
   ·obtain ⟨ad, x, e, HX, h0, h1, h2⟩ := rdIt HR.out HB.out hlt
    cases e
    have hf := setOk_fit hs x (List.mem_of_getElem? HX.out)
    have HFI := Aside0.mk hf
    clear hf
    go_upto_region 5 with (go_at_call 103; ((with_reducible refine (spec_SetOk _ s _ (HS.out.below HB.out)).mono ?_); rintro e W ⟨rfl, hb⟩; replace HB := Aside0.mk (bthen HB.out hb); replace HO := Aside0.mk (Kd.R_below HO.out hb); replace h0 := pw_cell_below hb h0; replace h1 := pw_cell_below hb h1; replace h2 := pw_cell_below hb h2; clear hb))
    have a1 := sl_add_lt HR.out hlt (k * 3)
    have hW0 := HB.out.size
    have HOd := Aside0.mk (R_drew HO.out)
    have hWd : w.heap.size ≤ W.drew.heap.size := hW0
    replace h0 : W.drew.cell? (ad.add (k * 3)) = some (.int .i64 x.f0) := h0
    replace h1 : W.drew.cell? ⟨(ad.add (k * 3)).block, (ad.add (k * 3)).off + 1, none⟩ = some (.int .i64 x.f1) := h1
    replace h2 : W.drew.cell? ⟨(ad.add (k * 3)).block, (ad.add (k * 3)).off + 2, none⟩ = some (.int .i64 x.f2) := h2
    have hln : ((s.take k).map negI).length < 3518437208000 := by omega
    refine start_ (n := 21) (S := fun w' => w'.cell? (ad.add (k * 3)) = some (.int .i64 x.f0) ∧ w'.cell? ⟨(ad.add (k * 3)).block, (ad.add (k * 3)).off + 1, none⟩ = some (.int .i64 x.f1) ∧ w'.cell? ⟨(ad.add (k * 3)).block, (ad.add (k * 3)).off + 2, none⟩ = some (.int .i64 x.f2)) (ds := [19]) #[false, false, false, false, false, false, false, false, false, false, false, false, false, false, false, false, false, false, false, false, false] (by kernel_rfl) rfl rfl ⟨h0, h1, h2⟩ (fun hHeld => ?_)
    refine with_tabW tb_spec_SetLess_5.tab tb_spec_SetLess_5.bits (fun HT_ HW_ => ?_)
    refine pure_ (i := 0) (N := some 16) (v := ?_) (a' := ?_) #[true, false, false, false, false, false, false, false, false, false, false, false, false, false, false, false, false, false, false, false, false] rfl rfl (any_of HT_.out (by kernel_rfl)) (fun _ _ _ h => h) (Or.inl ⟨by rfl, ?_⟩) ?_ ?_
    rotate_left; (intro w'; go_simp; with_reducible rfl); rotate_left; (simp only [Act.put, setIfInBounds_toArray, set_cons_zero, set_cons_succ, i64_w]; rfl)
    refine pure_ (i := 1) (N := some 17) (v := ?_) (a' := ?_) #[true, true, false, false, false, false, false, false, false, false, false, false, false, false, false, false, false, false, false, false, false] rfl rfl (any_of HT_.out (by kernel_rfl)) (fun _ _ _ h => h) (Or.inl ⟨by rfl, ?_⟩) ?_ ?_
    rotate_left; (intro w'; go_simp; with_reducible rfl); rotate_left; (simp only [Act.put, setIfInBounds_toArray, set_cons_zero, set_cons_succ, i64_w]; rfl)
    refine pure_ (i := 2) (N := some 18) (v := ?_) (a' := ?_) #[true, true, true, false, false, false, false, false, false, false, false, false, false, false, false, false, false, false, false, false, false] rfl rfl (any_of HT_.out (by kernel_rfl)) (fun _ _ _ h => h) (Or.inl ⟨by rfl, ?_⟩) ?_ ?_
    rotate_left; (intro w'; go_simp; with_reducible rfl); rotate_left; (simp only [Act.put, setIfInBounds_toArray, set_cons_zero, set_cons_succ, i64_w]; rfl)
    refine pure_ (i := 3) (N := some 19) (v := ?_) (a' := ?_) #[true, true, true, true, false, false, false, false, false, false, false, false, false, false, false, false, false, false, false, false, false] rfl rfl (any_of HT_.out (by kernel_rfl)) (fun _ _ _ h => h) (Or.inl ⟨by rfl, ?_⟩) ?_ ?_
    rotate_left; (intro w'; go_simp; with_reducible rfl); rotate_left; (simp only [Act.put, setIfInBounds_toArray, set_cons_zero, set_cons_succ, i64_w]; rfl)
    refine pure_ (i := 4) (N := some 20) (v := ?_) (a' := ?_) #[true, true, true, true, true, false, false, false, false, false, false, false, false, false, false, false, false, false, false, false, false] rfl rfl (any_of HT_.out (by kernel_rfl)) (fun _ _ _ h => h) (Or.inl ⟨by rfl, ?_⟩) ?_ ?_
    rotate_left; (intro w'; go_simp; with_reducible rfl); rotate_left; (simp only [Act.put, setIfInBounds_toArray, set_cons_zero, set_cons_succ, i64_w]; rfl)
    refine pure_ (i := 6) (N := some 22) (v := ?_) (a' := ?_) #[true, true, true, true, true, false, true, false, false, false, false, false, false, false, false, false, false, false, false, false, false] rfl rfl (any_of HT_.out (by kernel_rfl)) (fun _ _ _ h => h) (Or.inl ⟨by rfl, ?_⟩) ?_ ?_
    rotate_left; (intro w'; go_simp; with_reducible rfl); rotate_left; (simp only [Act.put, setIfInBounds_toArray, set_cons_zero, set_cons_succ, i64_w]; rfl)
    refine pure_ (i := 7) (N := some 23) (v := ?_) (a' := ?_) #[true, true, true, true, true, false, true, true, false, false, false, false, false, false, false, false, false, false, false, false, false] rfl rfl (any_of HT_.out (by kernel_rfl)) (fun _ _ _ h => h) (Or.inl ⟨by rfl, ?_⟩) ?_ ?_
    rotate_left; (intro w'; go_simp; with_reducible rfl); rotate_left; (simp only [Act.put, setIfInBounds_toArray, set_cons_zero, set_cons_succ, i64_w]; rfl)
    refine pure_ (i := 8) (N := some 24) (v := ?_) (a' := ?_) #[true, true, true, true, true, false, true, true, true, false, false, false, false, false, false, false, false, false, false, false, false] rfl rfl (any_of HT_.out (by kernel_rfl)) (fun _ _ _ h => h) (Or.inl ⟨by rfl, ?_⟩) ?_ ?_
    rotate_left; (intro w'; go_simp; with_reducible rfl); rotate_left; (simp only [Act.put, setIfInBounds_toArray, set_cons_zero, set_cons_succ, i64_w]; rfl)
    refine pure_ (i := 9) (N := some 25) (v := ?_) (a' := ?_) #[true, true, true, true, true, false, true, true, true, true, false, false, false, false, false, false, false, false, false, false, false] rfl rfl (any_of HT_.out (by kernel_rfl)) (fun _ _ _ h => h) (Or.inl ⟨by rfl, ?_⟩) ?_ ?_
    rotate_left; (intro w'; go_simp; with_reducible rfl); rotate_left; (simp only [Act.put, setIfInBounds_toArray, set_cons_zero, set_cons_succ, i64_w]; rfl)
    refine pure_ (i := 11) (N := some 27) (v := ?_) (a' := ?_) #[true, true, true, true, true, false, true, true, true, true, false, true, false, false, false, false, false, false, false, false, false] rfl rfl (any_of HT_.out (by kernel_rfl)) (fun _ _ _ h => h) (Or.inl ⟨by rfl, ?_⟩) ?_ ?_
    rotate_left; (intro w'; go_simp; with_reducible rfl); rotate_left; (simp only [Act.put, setIfInBounds_toArray, set_cons_zero, set_cons_succ, i64_w]; rfl)
    refine pure_ (i := 12) (N := some 28) (v := ?_) (a' := ?_) #[true, true, true, true, true, false, true, true, true, true, false, true, true, false, false, false, false, false, false, false, false] rfl rfl (any_of HT_.out (by kernel_rfl)) (fun _ _ _ h => h) (Or.inl ⟨by rfl, ?_⟩) ?_ ?_
    rotate_left; (intro w'; go_simp; with_reducible rfl); rotate_left; (simp only [Act.put, setIfInBounds_toArray, set_cons_zero, set_cons_succ, i64_w]; rfl)
    refine pure_ (i := 13) (N := some 29) (v := ?_) (a' := ?_) #[true, true, true, true, true, false, true, true, true, true, false, true, true, true, false, false, false, false, false, false, false] rfl rfl (any_of HT_.out (by kernel_rfl)) (fun _ _ _ h => h) (Or.inl ⟨by rfl, ?_⟩) ?_ ?_
    rotate_left; (intro w'; go_simp; with_reducible rfl); rotate_left; (simp only [Act.put, setIfInBounds_toArray, set_cons_zero, set_cons_succ, i64_w]; rfl)
    refine pure_ (i := 14) (N := some 30) (v := ?_) (a' := ?_) #[true, true, true, true, true, false, true, true, true, true, false, true, true, true, true, false, false, false, false, false, false] rfl rfl (any_of HT_.out (by kernel_rfl)) (fun _ _ _ h => h) (Or.inl ⟨by rfl, ?_⟩) ?_ ?_
    rotate_left; (intro w'; go_simp; with_reducible rfl); rotate_left; (simp only [Act.put, setIfInBounds_toArray, set_cons_zero, set_cons_succ, i64_w]; rfl)
    refine take_ (i := 5) (N := some 21) (v := ?_) (a' := ?_) #[true, true, true, true, true, true, true, true, true, true, false, true, true, true, true, false, false, false, false, false, false] rfl rfl (take_ofW HT_.out HW_.out (by kernel_rfl)) (fun _ _ _ h => h) (Or.inl ⟨by rfl, ?_⟩) hHeld ?_ ?_
    rotate_left; (rintro w' ⟨s0, s1, s2⟩; go_simp; with_reducible rfl); rotate_left; (simp only [Act.put, setIfInBounds_toArray, set_cons_zero, set_cons_succ, i64_w]; rfl)
    refine take_ (i := 10) (N := some 26) (v := ?_) (a' := ?_) #[true, true, true, true, true, true, true, true, true, true, true, true, true, true, true, false, false, false, false, false, false] rfl rfl (take_ofW HT_.out HW_.out (by kernel_rfl)) (fun _ _ _ h => h) (Or.inl ⟨by rfl, ?_⟩) hHeld ?_ ?_
    rotate_left; (rintro w' ⟨s0, s1, s2⟩; go_simp; with_reducible rfl); rotate_left; (simp only [Act.put, setIfInBounds_toArray, set_cons_zero, set_cons_succ, i64_w]; rfl)
    refine take_ (i := 15) (N := some 31) (v := ?_) (a' := ?_) #[true, true, true, true, true, true, true, true, true, true, true, true, true, true, true, true, false, false, false, false, false] rfl rfl (take_ofW HT_.out HW_.out (by kernel_rfl)) (fun _ _ _ h => h) (Or.inl ⟨by rfl, ?_⟩) hHeld ?_ ?_
    rotate_left; (rintro w' ⟨s0, s1, s2⟩; go_simp; with_reducible rfl); rotate_left; (simp only [Act.put, setIfInBounds_toArray, set_cons_zero, set_cons_succ, i64_w]; rfl)
    refine pure_ (i := 16) (N := some 32) (v := ?_) (a' := ?_) #[true, true, true, true, true, true, true, true, true, true, true, true, true, true, true, true, true, false, false, false, false] rfl rfl (any_of HT_.out (by kernel_rfl)) (fun _ _ _ h => h) (Or.inl ⟨by rfl, ?_⟩) ?_ ?_
    rotate_left; (intro w'; go_simp; with_reducible rfl); rotate_left; (simp only [Act.put, setIfInBounds_toArray, set_cons_zero, set_cons_succ, i64_w]; rfl)
    refine pure_ (i := 17) (N := some 33) (v := ?_) (a' := ?_) #[true, true, true, true, true, true, true, true, true, true, true, true, true, true, true, true, true, true, false, false, false] rfl rfl (any_of HT_.out (by kernel_rfl)) (fun _ _ _ h => h) (Or.inl ⟨by rfl, ?_⟩) ?_ ?_
    rotate_left; (intro w'; go_simp; with_reducible rfl); rotate_left; (simp only [Act.put, setIfInBounds_toArray, set_cons_zero, set_cons_succ, i64_w]; rfl)
    refine one_ (i := 18) (N := some 34) #[true, true, true, true, true, true, true, true, true, true, true, true, true, true, true, true, true, true, true, false, false] rfl rfl (one_of HT_.out (by kernel_rfl)) (by decide) (fun K hK => ?_)
    refine value_ (w1 := ?_) (v := ?_) (by rfl) rfl ?_ ?_
    rotate_left 2
    ·go_simp
     constructor
     ·rfl
     ·rfl
    refine hK.out _ _ ⟨pw_cell_below (below_alloc (Below.refl _ _) _) h0, pw_cell_below (below_alloc (Below.refl _ _) _) h1, pw_cell_below (below_alloc (Below.refl _ _) _) h2⟩ (fun hHeld => ?_)
    clear hK K
    refine norm_ (a' := ?_) ?_ ?_
    rotate_left
    ·show Act.put _ (some 34) _ = _
     simp only [Act.put, setIfInBounds_toArray, set_cons_zero, set_cons_succ, i64_w]
     rfl
    refine last_ (i := 19) (N := some 35) #[true, true, true, true, true, true, true, true, true, true, true, true, true, true, true, true, true, true, true, true, false] rfl rfl (one_of HT_.out (by kernel_rfl)) (by decide) (fun K hK => ?_)
    refine stepIt (W := W.drew) (base := w.heap.size) (xs := (s.take k).map negI) (ok := okT) rfl rfl rfl HOd.out (fun _ _ => trivial) hWd hln ?_
    intro v1 w1 hr1 hb1 hg1
    have HO4 := Aside0.mk hr1
    have HB4 := Aside0.mk (below_more (below_drew HB.out) hb1)
    clear hr1 hb1 hg1
    refine hK.out _ _ ?_
    clear hK K
    refine norm_ (a' := ?_) ?_ ?_
    rotate_left
    ·show Act.put _ (some 35) _ = _
     simp only [Act.put, setIfInBounds_toArray, set_cons_zero, set_cons_succ, i64_w]
     rfl
    refine pure_ (i := 20) (N := some 3) (v := ?_) (a' := ?_) #[true, true, true, true, true, true, true, true, true, true, true, true, true, true, true, true, true, true, true, true, true] rfl rfl (any_of HT_.out (by kernel_rfl)) (fun _ _ _ h => h) (Or.inl ⟨by rfl, ?_⟩) ?_ ?_
    rotate_left; (intro w'; go_simp; with_reducible rfl); rotate_left; (simp only [Act.put, setIfInBounds_toArray, set_cons_zero, set_cons_succ, i64_w]; rfl)
    refine done_ (done_of HT_.out (by kernel_rfl)) ?_
    clear hHeld HT_ HW_
    go_wp2
    go_roundw
    case rel => exact ⟨k + 1, by omega, by go_num, ⟨by rw [take_snoc HX.out, List.map_append]; exact HO4.out⟩, HB4⟩
    case measure => simp [intOf]; omega
   ·obtain rfl : k = s.length := by omega
    rw [List.take_length] at HO
    go_wp2
    go_ret
    exact RetR.mk (by rw [setLess, HSF.out]; exact HO.out) HB.out
end Go.Proofs.Ytkdendlgaaimbaa.X
