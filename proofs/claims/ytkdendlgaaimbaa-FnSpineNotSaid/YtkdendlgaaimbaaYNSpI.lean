/- Conditions: none. -/
import Derived.Test.YtkdendlgaaimbaaYNSpJ
import Derived.Test.YtkdendlgaaimbaaYNSpLs
import Derived.RegionTactic
import Derived.BigRegion
namespace Go.Proofs.Ytkdendlgaaimbaa.X
open Go.RowKit Go.Proofs.YtkdendlgaaimbaaW.PrintWords Go.Proofs.YtkdendlgaaimbaaW.PrintLast
open List (setIfInBounds_toArray set_cons_zero set_cons_succ)
set_option linter.unusedVariables false
set_option linter.unusedSimpArgs false
theorem in_no {w w' : World} {ls : List (List Rw)} {f : List Tm} {b : List Rw} (h : inB ls f b = false) (hb : Below w.heap.size w w') : SpU w (inL ls f b) (inF ls f b) (inB ls f b) (.returned (.tuple #[.agg #[.slice none 0 0, .slice none 0 0], .bool false])) w' := by
 unfold inL inF
 rw [h, if_neg (by simp), if_neg (by simp)]
 exact ⟨_, _, rfl, ⟨Kd.R_nil _ _ _ _ _, Kd.R_nil _ _ _ _ _⟩, hb⟩
theorem in_yes {w w' : World} {ls : List (List Rw)} {f : List Tm} {b : List Rw} {u v : Value} (h : inB ls f b = true) (ht : SpT w' w.heap.size okT u v (inBase ls f ++ [b]) f) (hb : Below w.heap.size w w') : SpU w (inL ls f b) (inF ls f b) (inB ls f b) (.returned (.tuple #[.agg #[u, v], .bool true])) w' := by
 unfold inL inF
 rw [if_pos h, if_pos h, h]
 exact ⟨_, _, rfl, ht, hb⟩
def SameL (a b : List (List Rw)) : Prop := a = b
theorem in_not {ls : List (List Rw)} {f : List Tm} {b : List Rw} (h : ¬ (SpOk ls f ∧ batchOk b = true ∧ (∀ r ∈ b, askOk f r.f2 = true) ∧ (ls.length = 6 → joinB ls f (leastL6 ls) = true) ∧ SpOk (inBase ls f ++ [b]) f)) : inB ls f b = false := by
 cases e : inB ls f b
 ·rfl
 ·exact absurd (inB_iff.1 e) h
def tb_spec_SpineIn_6.T : Bool × List (List Nat × List Nat) := (true, [([], []), ([0], [0]), ([], []), ([], []), ([2, 3], [2, 3]), ([4], [4]), ([5], [5]), ([1, 6], [1, 6]), ([7], [7]), ([8, 7], [8]), ([9], [9]), ([10, 9], [9, 10]), ([11, 9], [9, 11]), ([12, 9], [9, 12]), ([9, 13], [9, 13])])
def tb_spec_SpineIn_6.B : List Nat := [0, 1, 0, 0, 12, 28, 60, 127, 255, 511, 1023, 2047, 4095, 8191, 16383]
theorem tb_spec_SpineIn_6.tab : rtab .any (opsOf Try.f19 6) = tb_spec_SpineIn_6.T := by kernel_rfl
theorem tb_spec_SpineIn_6.bits : waitsOk tb_spec_SpineIn_6.T.2 tb_spec_SpineIn_6.B = true := by kernel_rfl
def tb_spec_SpineIn_10.T : Bool × List (List Nat × List Nat) := (true, [([], []), ([], []), ([1], [1]), ([0, 2, 2], [0, 2]), ([3], [3]), ([4], [4]), ([4], [4]), ([], []), ([7, 5, 3, 0, 1, 2, 3, 4, 5, 7], [5, 7]), ([6, 8, 0, 1, 2, 3, 4, 5, 6, 7, 8], [6])])
def tb_spec_SpineIn_10.B : List Nat := [0, 0, 2, 7, 15, 31, 31, 0, 191, 511]
theorem tb_spec_SpineIn_10.tab : rtab .any (opsOf Try.f19 10) = tb_spec_SpineIn_10.T := by kernel_rfl
theorem tb_spec_SpineIn_10.bits : waitsOk tb_spec_SpineIn_10.T.2 tb_spec_SpineIn_10.B = true := by kernel_rfl
def tb_spec_SpineIn_14.T : Bool × List (List Nat × List Nat) := (true, [([], []), ([0], [0]), ([], []), ([], []), ([2, 3], [2, 3]), ([4], [4]), ([1, 5, 4], [1, 5]), ([0, 1, 2, 3, 4, 5, 6], []), ([7, 6, 6, 0, 1, 2, 3, 4, 5, 6], [6, 7])])
def tb_spec_SpineIn_14.B : List Nat := [0, 1, 0, 0, 12, 28, 63, 127, 255]
theorem tb_spec_SpineIn_14.tab : rtab .any (opsOf Try.f19 14) = tb_spec_SpineIn_14.T := by kernel_rfl
theorem tb_spec_SpineIn_14.bits : waitsOk tb_spec_SpineIn_14.T.2 tb_spec_SpineIn_14.B = true := by kernel_rfl
set_option maxRecDepth 100000 in
set_option maxHeartbeats 4000000 in
theorem spec_SpineIn (u v vb : Value) (ls : List (List Rw)) (f : List Tm) (b : List Rw) (w : World) (h : SpS w u v ls f) (h2 : Sl kRw w vb b) (hb : SpB ls f) (hbl : b.length ≤ 1048576) : Calls Try.prog 19 #[.agg #[u, v], vb] w (SpU w (inL ls f b) (inF ls f b) (inB ls f b)) := by
 have HS := Aside0.mk h
 have HVB := Aside0.mk h2
 have HVW := Aside0.mk h2
 obtain ⟨⟨A, c, rfl, hc, hr⟩, A2, c2, rfl, hc2, hr2⟩ := h
 obtain ⟨A3, c3, rfl, hc3, hr3⟩ := h2
 have hm1 := Kd.C_max hr
 clear hr hr2 hr3
 have HB := Aside0.mk (Below.refl w.heap.size w)
 go_enter Try.func19, Try.ntmps19
 go_upto_region 1 with fail
 refine name_world fun W0 hW0 => ?_
 have hb0 : Below w.heap.size w W0 := hW0 ▸ below_alloc (below_alloc (Below.refl _ _) _) _
 have K0 : W0.heap[w.heap.size]? = some (.cells #[.slice A ls.length c, .slice A2 f.length c2] 26 (0, 0)) := by rw [hW0]; exact (blk_alloc (blk_new w _) _)
 obtain ⟨T, hT⟩ : ∃ T, T = w.heap.size + 1 := ⟨_, rfl⟩
 have T0 : W0.heap[T]? = some (.cells #[.slice none 0 0, .slice none 0 0] 26 (0, 0)) := by rw [hW0, hT]; have := blk_new (w.alloc (.cells #[.slice A ls.length c, .slice A2 f.length c2] 26 (0, 0))) (.cells #[.slice none 0 0, .slice none 0 0] 26 (0, 0)); simpa using this
 have hT2 : w.heap.size ≤ T := by omega
 have hK0 : w.heap.size < W0.heap.size := blk_lt K0
 have HK := Aside0.mk K0
 have HT := Aside0.mk T0
 have hne : w.heap.size ≠ T := by omega
 try rw [← hT]
 clear hW0 hT K0 T0
 replace HB := Aside0.mk hb0
 replace HS := Aside0.mk (HS.out.below hb0)
 replace HVB := Aside0.mk (HVB.out.below hb0)
 have HS1 : Aside0 (Sl (Kd.slice 102 kRw) W0 (.slice A ls.length c) ls) := ⟨HS.out.1⟩
 have HS2 : Aside0 (Sl kTm W0 (.slice A2 f.length c2) f) := ⟨HS.out.2⟩
 clear hb0
 have k0 := blk_cell HK.out 0
 have k1 := blk_cell HK.out 1
 by_cases hgo : spineOk ls f = true ∧ batchOk b = true
 case neg =>
  have HJ := Aside0.mk (show inB ls f b = false from in_not (fun h => hgo ⟨spineOk_iff.2 h.1, h.2.1⟩))
  have hbad : spineOk ls f = false ∨ (spineOk ls f = true ∧ batchOk b = false) := by
   cases h1 : spineOk ls f <;> cases h2 : batchOk b <;> simp_all
  clear hgo
  rcases hbad with hs | ⟨hs, hbo⟩
  all_goals
   go_wp2_with (first
    | (go_at_call 28; ((with_reducible refine (spec_SpineOk (.slice A ls.length c) (.slice A2 f.length c2) ls f _ HS1.out HS2.out).mono ?_); rintro e w' ⟨rfl, hbb⟩; replace HT := Aside0.mk (blk_below HT.out hbb); replace HVB := Aside0.mk (HVB.out.below hbb); replace HB := Aside0.mk (bthen HB.out hbb); have z0 := blk_cell HT.out 0; have z1 := blk_cell HT.out 1; have zf0 := blk_frozen HT.out 0; have zf1 := blk_frozen HT.out 1; clear hbb))
    | (go_at_call 82; ((with_reducible refine (spec_BatchOk _ b _ HVB.out).mono ?_); rintro e w' ⟨rfl, hbb⟩; replace HT := Aside0.mk (blk_below HT.out hbb); replace HB := Aside0.mk (bthen HB.out hbb); replace z0 := blk_cell HT.out 0; replace z1 := blk_cell HT.out 1; replace zf0 := blk_frozen HT.out 0; replace zf1 := blk_frozen HT.out 1; clear hbb)))
   refine bodyPost_ret (results_ct rfl _ _ T 26 #[.slice none 0 0, .slice none 0 0] (0, 0) _ rfl (blk2 HT.out _ _) Try.underlying26 rfl (by kernel_rfl)) rfl ?_
   exact in_no HJ.out (below_set (below_set HB.out hT2) hT2)
 obtain ⟨hs, hbo⟩ := hgo
 have hso := spineOk_iff.1 hs
 have hfew := hso.few
 have HRO := Aside0.mk (rowsOk_all (batchOk_rows hbo))
 go_upto_region 3 with (first
  | (go_at_call 28; ((with_reducible refine (spec_SpineOk (.slice A ls.length c) (.slice A2 f.length c2) ls f _ HS1.out HS2.out).mono ?_); rintro e w' ⟨rfl, hbb⟩; replace HT := Aside0.mk (blk_below HT.out hbb); replace HK := Aside0.mk (blk_below HK.out hbb); replace HS := Aside0.mk (HS.out.below hbb); replace HVB := Aside0.mk (HVB.out.below hbb); replace HB := Aside0.mk (bthen HB.out hbb); clear hbb k0 k1))
  | (go_at_call 82; ((with_reducible refine (spec_BatchOk _ b _ HVB.out).mono ?_); rintro e W1 ⟨rfl, hbb⟩; replace HT := Aside0.mk (blk_below HT.out hbb); replace HK := Aside0.mk (blk_below HK.out hbb); replace HS := Aside0.mk (HS.out.below hbb); replace HVB := Aside0.mk (HVB.out.below hbb); replace HB := Aside0.mk (bthen HB.out hbb); clear hbb)))
 clear HS1 HS2
 have HBR := Aside0.mk (Below.refl W1.heap.size W1)
 obtain ⟨A3', c3', e3, hc3', hC3⟩ := HVB.out
 cases e3
 have HC3 := Aside0.mk hC3
 have hmb := Kd.C_max hC3
 clear hC3
 have hfr := hso.front
 have HFR := Aside0.mk hfr
 clear hfr
 go_wp2
 go_loopw [6] (fun i wr => ∃ k : Nat, k ≤ b.length ∧ i = .int .i64 k ∧ Aside0 (∀ r ∈ b.take k, askOk f r.f2 = true) ∧ Aside0 (Below W1.heap.size W1 wr)) (fun i _ => b.length - (intOf i).toNat)
 case atStart => exact ⟨0, Nat.zero_le _, rfl, ⟨by simp⟩, HBR⟩
 case round =>
  clear HBR
  obtain ⟨k, hk, rfl, HA, HBW⟩ := hrel
  by_cases hlt : k < b.length
  ·obtain ⟨ad, x, e, HX, h0, h1, h2, h3, h4⟩ := rdRw HC3.out HBW.out hlt
   cases e
   clear h0 h1 h4
   have kk : wr.cell? ⟨w.heap.size, 1, none⟩ = some (.slice A2 f.length c2) := blk_cell (blk_below HK.out HBW.out) 1
   have htx : tOk x.f2 = true := rowOk_tm (HRO.out.2 x (List.mem_of_getElem? HX.out))
   have hcv := covers_eq HFR.out htx
   have HSW := Aside0.mk ((HS.out.2.below HBW.out).below (below_drew (Below.refl _ _)))
   have CV := spec_FrontCovers (.slice A2 f.length c2) f x.f2.f0 x.f2.f1 wr.drew HSW.out
   have d1 : wr.drew.cell? ⟨w.heap.size, 1, none⟩ = some (.slice A2 f.length c2) := kk
   have d2 : wr.drew.cell? ⟨(ad.add (k * 5)).block, (ad.add (k * 5)).off + 2, none⟩ = some (.int .i64 x.f2.f0) := h2
   have d3 : wr.drew.cell? ⟨(ad.add (k * 5)).block, (ad.add (k * 5)).off + 3, none⟩ = some (.int .i64 x.f2.f1) := h3
   have hki : (k : Int) < (b.length : Int) := Int.ofNat_lt.2 hlt
   have hk0 : (0 : Int) ≤ (k : Int) := Int.natCast_nonneg k
   clear htx kk h2 h3
   have hthree : (covers f x.f2 = true ∧ askOk f x.f2 = true) ∨ (covers f x.f2 = false ∧ f.length = 0 ∧ askOk f x.f2 = true) ∨ (covers f x.f2 = false ∧ 0 < f.length ∧ askOk f x.f2 = false) := by
    unfold askOk
    rw [← hcv]
    cases hb2 : covers f x.f2
    ·cases f with
     | nil => exact .inr (.inl ⟨rfl, rfl, rfl⟩)
     | cons a f => exact .inr (.inr ⟨rfl, by simp, rfl⟩)
    ·exact .inl ⟨rfl, by rw [Bool.or_true]⟩
   clear hcv
   rcases hthree with ⟨hcov, hask⟩ | ⟨hcov, hlen, hask⟩ | ⟨hcov, hlen, hask⟩
   case' inl =>
    have CV2 := CV
    rw [show covers f ⟨x.f2.f0, x.f2.f1⟩ = true from hcov] at CV2
    have HASK := Aside0.mk hask
    clear hask hcov CV
    go_upto_region 6 with fail
    refine start_ (n := 15) (S := fun w' => w'.cell? ⟨w.heap.size, 1, none⟩ = some (.slice A2 f.length c2) ∧ w'.cell? ⟨(ad.add (k * 5)).block, (ad.add (k * 5)).off + 2, none⟩ = some (.int .i64 x.f2.f0) ∧ w'.cell? ⟨(ad.add (k * 5)).block, (ad.add (k * 5)).off + 3, none⟩ = some (.int .i64 x.f2.f1)) (ds := []) #[false, false, false, false, false, false, false, false, false, false, false, false, false, false, false] (by kernel_rfl) rfl rfl ⟨d1, d2, d3⟩ (fun hHeld => ?_)
    refine with_tabW tb_spec_SpineIn_6.tab tb_spec_SpineIn_6.bits (fun HT_ HW_ => ?_)
    refine pure_ (i := 0) (N := some 25) (v := ?_) (a' := ?_) #[true, false, false, false, false, false, false, false, false, false, false, false, false, false, false] rfl rfl (any_of HT_.out (by kernel_rfl)) (fun _ _ _ h => h) (Or.inl ⟨by rfl, ?_⟩) ?_ ?_
    rotate_left
    ·intro w'
     go_simp
     with_reducible rfl
    rotate_left
    ·simp only [Act.put, setIfInBounds_toArray, set_cons_zero, set_cons_succ, i64_w]
     rfl
    refine pure_ (i := 2) (N := some 27) (v := ?_) (a' := ?_) #[true, false, true, false, false, false, false, false, false, false, false, false, false, false, false] rfl rfl (any_of HT_.out (by kernel_rfl)) (fun _ _ _ h => h) (Or.inl ⟨by rfl, ?_⟩) ?_ ?_
    rotate_left
    ·intro w'
     go_simp
     with_reducible rfl
    rotate_left
    ·simp only [Act.put, setIfInBounds_toArray, set_cons_zero, set_cons_succ, i64_w]
     rfl
    refine pure_ (i := 3) (N := some 28) (v := ?_) (a' := ?_) #[true, false, true, true, false, false, false, false, false, false, false, false, false, false, false] rfl rfl (any_of HT_.out (by kernel_rfl)) (fun _ _ _ h => h) (Or.inl ⟨by rfl, ?_⟩) ?_ ?_
    rotate_left
    ·intro w'
     go_simp
     with_reducible rfl
    rotate_left
    ·simp only [Act.put, setIfInBounds_toArray, set_cons_zero, set_cons_succ, i64_w]
     rfl
    refine pure_ (i := 4) (N := some 29) (v := ?_) (a' := ?_) #[true, false, true, true, true, false, false, false, false, false, false, false, false, false, false] rfl rfl (any_of HT_.out (by kernel_rfl)) (fun _ _ _ h => h) (Or.inl ⟨by rfl, ?_⟩) ?_ ?_
    rotate_left
    ·intro w'
     go_simp
     with_reducible rfl
    rotate_left
    ·simp only [Act.put, setIfInBounds_toArray, set_cons_zero, set_cons_succ, i64_w]
     rfl
    refine pure_ (i := 5) (N := some 30) (v := ?_) (a' := ?_) #[true, false, true, true, true, true, false, false, false, false, false, false, false, false, false] rfl rfl (any_of HT_.out (by kernel_rfl)) (fun _ _ _ h => h) (Or.inl ⟨by rfl, ?_⟩) ?_ ?_
    rotate_left
    ·intro w'
     go_simp
     with_reducible rfl
    rotate_left
    ·simp only [Act.put, setIfInBounds_toArray, set_cons_zero, set_cons_succ, i64_w]
     rfl
    refine take_ (i := 1) (N := some 26) (v := ?_) (a' := ?_) #[true, true, true, true, true, true, false, false, false, false, false, false, false, false, false] rfl rfl (take_ofW HT_.out HW_.out (by kernel_rfl)) (fun _ _ _ h => h) (Or.inl ⟨by rfl, ?_⟩) hHeld ?_ ?_
    rotate_left
    ·rintro w' ⟨s0, s1, s2⟩
     go_simp
     with_reducible rfl
    rotate_left
    ·simp only [Act.put, setIfInBounds_toArray, set_cons_zero, set_cons_succ, i64_w]
     rfl
    refine take_ (i := 6) (N := some 31) (v := ?_) (a' := ?_) #[true, true, true, true, true, true, true, false, false, false, false, false, false, false, false] rfl rfl (take_ofW HT_.out HW_.out (by kernel_rfl)) (fun _ _ _ h => h) (Or.inl ⟨by rfl, ?_⟩) hHeld ?_ ?_
    rotate_left
    ·rintro w' ⟨s0, s1, s2⟩
     go_simp
     with_reducible rfl
    rotate_left
    ·simp only [Act.put, setIfInBounds_toArray, set_cons_zero, set_cons_succ, i64_w]
     rfl
    refine one_ (i := 7) (N := some 32) #[true, true, true, true, true, true, true, true, false, false, false, false, false, false, false] rfl rfl (one_of HT_.out (by kernel_rfl)) (by decide) (fun K hK => ?_)
    refine goes_ Try.func83 (by kernel_rfl) rfl #[.slice A2 f.length c2, .agg #[.int .i64 x.f2.f0, .int .i64 x.f2.f1]] (by rfl) rfl rfl (by simp only [List.map_toArray, List.map_cons, List.map_nil]; rfl) ?_
    with_reducible refine (CV2).mono ?_
    rintro e w6 ⟨rfl, hb6⟩
    refine ⟨_, rfl, ?_⟩
    have HB2 := Aside0.mk (bthen (below_drew HBW.out) hb6)
    refine hK.out _ _ ⟨pw_cell_below hb6 d1, pw_cell_below hb6 d2, pw_cell_below hb6 d3⟩ (fun hHeld => ?_)
    clear hK K
    refine norm_ (a' := ?_) ?_ ?_
    rotate_left
    ·show Act.put _ (some 32) _ = _
     simp only [Act.put, setIfInBounds_toArray, set_cons_zero, set_cons_succ, i64_w]
     rfl
    refine pure_ (i := 8) (N := some 33) (v := ?_) (a' := ?_) #[true, true, true, true, true, true, true, true, true, false, false, false, false, false, false] rfl rfl (any_of HT_.out (by kernel_rfl)) (fun _ _ _ h => h) (Or.inl ⟨by rfl, ?_⟩) ?_ ?_
    rotate_left
    ·intro w'
     go_simp
     with_reducible rfl
    rotate_left
    ·simp only [Act.put, setIfInBounds_toArray, set_cons_zero, set_cons_succ, i64_w]
     rfl
    refine pure_ (i := 9) (N := some 34) (v := ?_) (a' := ?_) #[true, true, true, true, true, true, true, true, true, true, false, false, false, false, false] rfl rfl (any_of HT_.out (by kernel_rfl)) (fun _ _ _ h => h) (Or.inl ⟨by rfl, ?_⟩) ?_ ?_
    rotate_left
    ·intro w'
     go_simp
     with_reducible rfl
    rotate_left
    ·simp only [Act.put, setIfInBounds_toArray, set_cons_zero, set_cons_succ, i64_w]
     rfl
    refine pure_ (i := 10) (N := some 35) (v := undef) (a' := ?_) #[true, true, true, true, true, true, true, true, true, true, true, false, false, false, false] rfl rfl (any_of HT_.out (by kernel_rfl)) (fun _ _ _ h => h) (Or.inr ⟨by rfl, rfl⟩) ?_ ?_
    rotate_left
    ·simp only [Act.put, setIfInBounds_toArray, set_cons_zero, set_cons_succ, i64_w]
     rfl
    refine pure_ (i := 11) (N := some 36) (v := undef) (a' := ?_) #[true, true, true, true, true, true, true, true, true, true, true, true, false, false, false] rfl rfl (any_of HT_.out (by kernel_rfl)) (fun _ _ _ h => h) (Or.inr ⟨by rfl, rfl⟩) ?_ ?_
    rotate_left
    ·simp only [Act.put, setIfInBounds_toArray, set_cons_zero, set_cons_succ, i64_w]
     rfl
    refine pure_ (i := 12) (N := some 37) (v := undef) (a' := ?_) #[true, true, true, true, true, true, true, true, true, true, true, true, true, false, false] rfl rfl (any_of HT_.out (by kernel_rfl)) (fun _ _ _ h => h) (Or.inr ⟨by rfl, rfl⟩) ?_ ?_
    rotate_left
    ·simp only [Act.put, setIfInBounds_toArray, set_cons_zero, set_cons_succ, i64_w]
     rfl
    refine pure_ (i := 13) (N := some 38) (v := undef) (a' := ?_) #[true, true, true, true, true, true, true, true, true, true, true, true, true, true, false] rfl rfl (any_of HT_.out (by kernel_rfl)) (fun _ _ _ h => h) (Or.inr ⟨by rfl, rfl⟩) ?_ ?_
    rotate_left
    ·simp only [Act.put, setIfInBounds_toArray, set_cons_zero, set_cons_succ, i64_w]
     rfl
    refine pure_ (i := 14) (N := some 39) (v := ?_) (a' := ?_) #[true, true, true, true, true, true, true, true, true, true, true, true, true, true, true] rfl rfl (any_of HT_.out (by kernel_rfl)) (fun _ _ _ h => h) (Or.inl ⟨by rfl, ?_⟩) ?_ ?_
    rotate_left
    ·intro w'
     go_simp
     with_reducible rfl
    rotate_left
    ·simp only [Act.put, setIfInBounds_toArray, set_cons_zero, set_cons_succ, i64_w]
     rfl
    refine done_ (done_of HT_.out (by kernel_rfl)) ?_
   case' inr.inl =>
    have CV2 := CV
    rw [show covers f ⟨x.f2.f0, x.f2.f1⟩ = false from hcov] at CV2
    have hl0 : decide (0 < f.length) = false := decide_eq_false (by omega)
    have HASK := Aside0.mk hask
    clear hask hcov CV hlen
    go_upto_region 6 with fail
    refine start_ (n := 15) (S := fun w' => w'.cell? ⟨w.heap.size, 1, none⟩ = some (.slice A2 f.length c2) ∧ w'.cell? ⟨(ad.add (k * 5)).block, (ad.add (k * 5)).off + 2, none⟩ = some (.int .i64 x.f2.f0) ∧ w'.cell? ⟨(ad.add (k * 5)).block, (ad.add (k * 5)).off + 3, none⟩ = some (.int .i64 x.f2.f1)) (ds := []) #[false, false, false, false, false, false, false, false, false, false, false, false, false, false, false] (by kernel_rfl) rfl rfl ⟨d1, d2, d3⟩ (fun hHeld => ?_)
    refine with_tabW tb_spec_SpineIn_6.tab tb_spec_SpineIn_6.bits (fun HT_ HW_ => ?_)
    refine pure_ (i := 0) (N := some 25) (v := ?_) (a' := ?_) #[true, false, false, false, false, false, false, false, false, false, false, false, false, false, false] rfl rfl (any_of HT_.out (by kernel_rfl)) (fun _ _ _ h => h) (Or.inl ⟨by rfl, ?_⟩) ?_ ?_
    rotate_left
    ·intro w'
     go_simp
     with_reducible rfl
    rotate_left
    ·simp only [Act.put, setIfInBounds_toArray, set_cons_zero, set_cons_succ, i64_w]
     rfl
    refine pure_ (i := 2) (N := some 27) (v := ?_) (a' := ?_) #[true, false, true, false, false, false, false, false, false, false, false, false, false, false, false] rfl rfl (any_of HT_.out (by kernel_rfl)) (fun _ _ _ h => h) (Or.inl ⟨by rfl, ?_⟩) ?_ ?_
    rotate_left
    ·intro w'
     go_simp
     with_reducible rfl
    rotate_left
    ·simp only [Act.put, setIfInBounds_toArray, set_cons_zero, set_cons_succ, i64_w]
     rfl
    refine pure_ (i := 3) (N := some 28) (v := ?_) (a' := ?_) #[true, false, true, true, false, false, false, false, false, false, false, false, false, false, false] rfl rfl (any_of HT_.out (by kernel_rfl)) (fun _ _ _ h => h) (Or.inl ⟨by rfl, ?_⟩) ?_ ?_
    rotate_left
    ·intro w'
     go_simp
     with_reducible rfl
    rotate_left
    ·simp only [Act.put, setIfInBounds_toArray, set_cons_zero, set_cons_succ, i64_w]
     rfl
    refine pure_ (i := 4) (N := some 29) (v := ?_) (a' := ?_) #[true, false, true, true, true, false, false, false, false, false, false, false, false, false, false] rfl rfl (any_of HT_.out (by kernel_rfl)) (fun _ _ _ h => h) (Or.inl ⟨by rfl, ?_⟩) ?_ ?_
    rotate_left
    ·intro w'
     go_simp
     with_reducible rfl
    rotate_left
    ·simp only [Act.put, setIfInBounds_toArray, set_cons_zero, set_cons_succ, i64_w]
     rfl
    refine pure_ (i := 5) (N := some 30) (v := ?_) (a' := ?_) #[true, false, true, true, true, true, false, false, false, false, false, false, false, false, false] rfl rfl (any_of HT_.out (by kernel_rfl)) (fun _ _ _ h => h) (Or.inl ⟨by rfl, ?_⟩) ?_ ?_
    rotate_left
    ·intro w'
     go_simp
     with_reducible rfl
    rotate_left
    ·simp only [Act.put, setIfInBounds_toArray, set_cons_zero, set_cons_succ, i64_w]
     rfl
    refine take_ (i := 1) (N := some 26) (v := ?_) (a' := ?_) #[true, true, true, true, true, true, false, false, false, false, false, false, false, false, false] rfl rfl (take_ofW HT_.out HW_.out (by kernel_rfl)) (fun _ _ _ h => h) (Or.inl ⟨by rfl, ?_⟩) hHeld ?_ ?_
    rotate_left
    ·rintro w' ⟨s0, s1, s2⟩
     go_simp
     with_reducible rfl
    rotate_left
    ·simp only [Act.put, setIfInBounds_toArray, set_cons_zero, set_cons_succ, i64_w]
     rfl
    refine take_ (i := 6) (N := some 31) (v := ?_) (a' := ?_) #[true, true, true, true, true, true, true, false, false, false, false, false, false, false, false] rfl rfl (take_ofW HT_.out HW_.out (by kernel_rfl)) (fun _ _ _ h => h) (Or.inl ⟨by rfl, ?_⟩) hHeld ?_ ?_
    rotate_left
    ·rintro w' ⟨s0, s1, s2⟩
     go_simp
     with_reducible rfl
    rotate_left
    ·simp only [Act.put, setIfInBounds_toArray, set_cons_zero, set_cons_succ, i64_w]
     rfl
    refine one_ (i := 7) (N := some 32) #[true, true, true, true, true, true, true, true, false, false, false, false, false, false, false] rfl rfl (one_of HT_.out (by kernel_rfl)) (by decide) (fun K hK => ?_)
    refine goes_ Try.func83 (by kernel_rfl) rfl #[.slice A2 f.length c2, .agg #[.int .i64 x.f2.f0, .int .i64 x.f2.f1]] (by rfl) rfl rfl (by simp only [List.map_toArray, List.map_cons, List.map_nil]; rfl) ?_
    with_reducible refine (CV2).mono ?_
    rintro e w6 ⟨rfl, hb6⟩
    refine ⟨_, rfl, ?_⟩
    have HB2 := Aside0.mk (bthen (below_drew HBW.out) hb6)
    refine hK.out _ _ ⟨pw_cell_below hb6 d1, pw_cell_below hb6 d2, pw_cell_below hb6 d3⟩ (fun hHeld => ?_)
    clear hK K
    refine norm_ (a' := ?_) ?_ ?_
    rotate_left
    ·show Act.put _ (some 32) _ = _
     simp only [Act.put, setIfInBounds_toArray, set_cons_zero, set_cons_succ, i64_w]
     rfl
    refine pure_ (i := 8) (N := some 33) (v := ?_) (a' := ?_) #[true, true, true, true, true, true, true, true, true, false, false, false, false, false, false] rfl rfl (any_of HT_.out (by kernel_rfl)) (fun _ _ _ h => h) (Or.inl ⟨by rfl, ?_⟩) ?_ ?_
    rotate_left
    ·intro w'
     go_simp
     with_reducible rfl
    rotate_left
    ·simp only [Act.put, setIfInBounds_toArray, set_cons_zero, set_cons_succ, i64_w]
     rfl
    refine pure_ (i := 9) (N := some 34) (v := ?_) (a' := ?_) #[true, true, true, true, true, true, true, true, true, true, false, false, false, false, false] rfl rfl (any_of HT_.out (by kernel_rfl)) (fun _ _ _ h => h) (Or.inl ⟨by rfl, ?_⟩) ?_ ?_
    rotate_left
    ·intro w'
     go_simp
     with_reducible rfl
    rotate_left
    ·simp only [Act.put, setIfInBounds_toArray, set_cons_zero, set_cons_succ, i64_w]
     rfl
    refine pure_ (i := 10) (N := some 35) (v := ?_) (a' := ?_) #[true, true, true, true, true, true, true, true, true, true, true, false, false, false, false] rfl rfl (any_of HT_.out (by kernel_rfl)) (fun _ _ _ h => h) (Or.inl ⟨by rfl, ?_⟩) ?_ ?_
    rotate_left
    ·intro w'
     go_simp
     with_reducible rfl
    rotate_left
    ·simp only [Act.put, setIfInBounds_toArray, set_cons_zero, set_cons_succ, i64_w]
     rfl
    refine take_ (i := 11) (N := some 36) (v := ?_) (a' := ?_) #[true, true, true, true, true, true, true, true, true, true, true, true, false, false, false] rfl rfl (take_ofW HT_.out HW_.out (by kernel_rfl)) (fun _ _ _ h => h) (Or.inl ⟨by rfl, ?_⟩) hHeld ?_ ?_
    rotate_left
    ·rintro w' ⟨s0, s1, s2⟩
     go_simp
     with_reducible rfl
    rotate_left
    ·simp only [Act.put, setIfInBounds_toArray, set_cons_zero, set_cons_succ, i64_w]
     rfl
    refine pure_ (i := 12) (N := some 37) (v := ?_) (a' := ?_) #[true, true, true, true, true, true, true, true, true, true, true, true, true, false, false] rfl rfl (any_of HT_.out (by kernel_rfl)) (fun _ _ _ h => h) (Or.inl ⟨by rfl, ?_⟩) ?_ ?_
    rotate_left
    ·intro w'
     go_simp
     with_reducible rfl
    rotate_left
    ·simp only [Act.put, setIfInBounds_toArray, set_cons_zero, set_cons_succ, i64_w]
     rfl
    refine pure_ (i := 13) (N := some 38) (v := ?_) (a' := ?_) #[true, true, true, true, true, true, true, true, true, true, true, true, true, true, false] rfl rfl (any_of HT_.out (by kernel_rfl)) (fun _ _ _ h => h) (Or.inl ⟨by rfl, ?_⟩) ?_ ?_
    rotate_left
    ·intro w'
     go_simp
     with_reducible rfl
    rotate_left
    ·simp only [Act.put, setIfInBounds_toArray, set_cons_zero, set_cons_succ, i64_w]
     rfl
    refine pure_ (i := 14) (N := some 39) (v := ?_) (a' := ?_) #[true, true, true, true, true, true, true, true, true, true, true, true, true, true, true] rfl rfl (any_of HT_.out (by kernel_rfl)) (fun _ _ _ h => h) (Or.inl ⟨by rfl, ?_⟩) ?_ ?_
    rotate_left
    ·intro w'
     go_simp
     with_reducible rfl
    rotate_left
    ·simp only [Act.put, setIfInBounds_toArray, set_cons_zero, set_cons_succ, i64_w]
     rfl
    refine done_ (done_of HT_.out (by kernel_rfl)) ?_
   case' inr.inr =>
    have CV2 := CV
    rw [show covers f ⟨x.f2.f0, x.f2.f1⟩ = false from hcov] at CV2
    have hl0 : decide (0 < f.length) = true := decide_eq_true hlen
    have HJ := Aside0.mk (show inB ls f b = false from in_not (fun h => by have := h.2.2.1 x (List.mem_of_getElem? HX.out); rw [hask] at this; cases this))
    clear hask hcov CV hlen
    go_upto_region 6 with fail
    refine start_ (n := 15) (S := fun w' => w'.cell? ⟨w.heap.size, 1, none⟩ = some (.slice A2 f.length c2) ∧ w'.cell? ⟨(ad.add (k * 5)).block, (ad.add (k * 5)).off + 2, none⟩ = some (.int .i64 x.f2.f0) ∧ w'.cell? ⟨(ad.add (k * 5)).block, (ad.add (k * 5)).off + 3, none⟩ = some (.int .i64 x.f2.f1)) (ds := []) #[false, false, false, false, false, false, false, false, false, false, false, false, false, false, false] (by kernel_rfl) rfl rfl ⟨d1, d2, d3⟩ (fun hHeld => ?_)
    refine with_tabW tb_spec_SpineIn_6.tab tb_spec_SpineIn_6.bits (fun HT_ HW_ => ?_)
    refine pure_ (i := 0) (N := some 25) (v := ?_) (a' := ?_) #[true, false, false, false, false, false, false, false, false, false, false, false, false, false, false] rfl rfl (any_of HT_.out (by kernel_rfl)) (fun _ _ _ h => h) (Or.inl ⟨by rfl, ?_⟩) ?_ ?_
    rotate_left
    ·intro w'
     go_simp
     with_reducible rfl
    rotate_left
    ·simp only [Act.put, setIfInBounds_toArray, set_cons_zero, set_cons_succ, i64_w]
     rfl
    refine pure_ (i := 2) (N := some 27) (v := ?_) (a' := ?_) #[true, false, true, false, false, false, false, false, false, false, false, false, false, false, false] rfl rfl (any_of HT_.out (by kernel_rfl)) (fun _ _ _ h => h) (Or.inl ⟨by rfl, ?_⟩) ?_ ?_
    rotate_left
    ·intro w'
     go_simp
     with_reducible rfl
    rotate_left
    ·simp only [Act.put, setIfInBounds_toArray, set_cons_zero, set_cons_succ, i64_w]
     rfl
    refine pure_ (i := 3) (N := some 28) (v := ?_) (a' := ?_) #[true, false, true, true, false, false, false, false, false, false, false, false, false, false, false] rfl rfl (any_of HT_.out (by kernel_rfl)) (fun _ _ _ h => h) (Or.inl ⟨by rfl, ?_⟩) ?_ ?_
    rotate_left
    ·intro w'
     go_simp
     with_reducible rfl
    rotate_left
    ·simp only [Act.put, setIfInBounds_toArray, set_cons_zero, set_cons_succ, i64_w]
     rfl
    refine pure_ (i := 4) (N := some 29) (v := ?_) (a' := ?_) #[true, false, true, true, true, false, false, false, false, false, false, false, false, false, false] rfl rfl (any_of HT_.out (by kernel_rfl)) (fun _ _ _ h => h) (Or.inl ⟨by rfl, ?_⟩) ?_ ?_
    rotate_left
    ·intro w'
     go_simp
     with_reducible rfl
    rotate_left
    ·simp only [Act.put, setIfInBounds_toArray, set_cons_zero, set_cons_succ, i64_w]
     rfl
    refine pure_ (i := 5) (N := some 30) (v := ?_) (a' := ?_) #[true, false, true, true, true, true, false, false, false, false, false, false, false, false, false] rfl rfl (any_of HT_.out (by kernel_rfl)) (fun _ _ _ h => h) (Or.inl ⟨by rfl, ?_⟩) ?_ ?_
    rotate_left
    ·intro w'
     go_simp
     with_reducible rfl
    rotate_left
    ·simp only [Act.put, setIfInBounds_toArray, set_cons_zero, set_cons_succ, i64_w]
     rfl
    refine take_ (i := 1) (N := some 26) (v := ?_) (a' := ?_) #[true, true, true, true, true, true, false, false, false, false, false, false, false, false, false] rfl rfl (take_ofW HT_.out HW_.out (by kernel_rfl)) (fun _ _ _ h => h) (Or.inl ⟨by rfl, ?_⟩) hHeld ?_ ?_
    rotate_left
    ·rintro w' ⟨s0, s1, s2⟩
     go_simp
     with_reducible rfl
    rotate_left
    ·simp only [Act.put, setIfInBounds_toArray, set_cons_zero, set_cons_succ, i64_w]
     rfl
    refine take_ (i := 6) (N := some 31) (v := ?_) (a' := ?_) #[true, true, true, true, true, true, true, false, false, false, false, false, false, false, false] rfl rfl (take_ofW HT_.out HW_.out (by kernel_rfl)) (fun _ _ _ h => h) (Or.inl ⟨by rfl, ?_⟩) hHeld ?_ ?_
    rotate_left
    ·rintro w' ⟨s0, s1, s2⟩
     go_simp
     with_reducible rfl
    rotate_left
    ·simp only [Act.put, setIfInBounds_toArray, set_cons_zero, set_cons_succ, i64_w]
     rfl
    refine one_ (i := 7) (N := some 32) #[true, true, true, true, true, true, true, true, false, false, false, false, false, false, false] rfl rfl (one_of HT_.out (by kernel_rfl)) (by decide) (fun K hK => ?_)
    refine goes_ Try.func83 (by kernel_rfl) rfl #[.slice A2 f.length c2, .agg #[.int .i64 x.f2.f0, .int .i64 x.f2.f1]] (by rfl) rfl rfl (by simp only [List.map_toArray, List.map_cons, List.map_nil]; rfl) ?_
    with_reducible refine (CV2).mono ?_
    rintro e w6 ⟨rfl, hb6⟩
    refine ⟨_, rfl, ?_⟩
    have HB2 := Aside0.mk (bthen (below_drew HBW.out) hb6)
    refine hK.out _ _ ⟨pw_cell_below hb6 d1, pw_cell_below hb6 d2, pw_cell_below hb6 d3⟩ (fun hHeld => ?_)
    clear hK K
    refine norm_ (a' := ?_) ?_ ?_
    rotate_left
    ·show Act.put _ (some 32) _ = _
     simp only [Act.put, setIfInBounds_toArray, set_cons_zero, set_cons_succ, i64_w]
     rfl
    refine pure_ (i := 8) (N := some 33) (v := ?_) (a' := ?_) #[true, true, true, true, true, true, true, true, true, false, false, false, false, false, false] rfl rfl (any_of HT_.out (by kernel_rfl)) (fun _ _ _ h => h) (Or.inl ⟨by rfl, ?_⟩) ?_ ?_
    rotate_left
    ·intro w'
     go_simp
     with_reducible rfl
    rotate_left
    ·simp only [Act.put, setIfInBounds_toArray, set_cons_zero, set_cons_succ, i64_w]
     rfl
    refine pure_ (i := 9) (N := some 34) (v := ?_) (a' := ?_) #[true, true, true, true, true, true, true, true, true, true, false, false, false, false, false] rfl rfl (any_of HT_.out (by kernel_rfl)) (fun _ _ _ h => h) (Or.inl ⟨by rfl, ?_⟩) ?_ ?_
    rotate_left
    ·intro w'
     go_simp
     with_reducible rfl
    rotate_left
    ·simp only [Act.put, setIfInBounds_toArray, set_cons_zero, set_cons_succ, i64_w]
     rfl
    refine pure_ (i := 10) (N := some 35) (v := ?_) (a' := ?_) #[true, true, true, true, true, true, true, true, true, true, true, false, false, false, false] rfl rfl (any_of HT_.out (by kernel_rfl)) (fun _ _ _ h => h) (Or.inl ⟨by rfl, ?_⟩) ?_ ?_
    rotate_left
    ·intro w'
     go_simp
     with_reducible rfl
    rotate_left
    ·simp only [Act.put, setIfInBounds_toArray, set_cons_zero, set_cons_succ, i64_w]
     rfl
    refine take_ (i := 11) (N := some 36) (v := ?_) (a' := ?_) #[true, true, true, true, true, true, true, true, true, true, true, true, false, false, false] rfl rfl (take_ofW HT_.out HW_.out (by kernel_rfl)) (fun _ _ _ h => h) (Or.inl ⟨by rfl, ?_⟩) hHeld ?_ ?_
    rotate_left
    ·rintro w' ⟨s0, s1, s2⟩
     go_simp
     with_reducible rfl
    rotate_left
    ·simp only [Act.put, setIfInBounds_toArray, set_cons_zero, set_cons_succ, i64_w]
     rfl
    refine pure_ (i := 12) (N := some 37) (v := ?_) (a' := ?_) #[true, true, true, true, true, true, true, true, true, true, true, true, true, false, false] rfl rfl (any_of HT_.out (by kernel_rfl)) (fun _ _ _ h => h) (Or.inl ⟨by rfl, ?_⟩) ?_ ?_
    rotate_left
    ·intro w'
     go_simp
     with_reducible rfl
    rotate_left
    ·simp only [Act.put, setIfInBounds_toArray, set_cons_zero, set_cons_succ, i64_w]
     rfl
    refine pure_ (i := 13) (N := some 38) (v := ?_) (a' := ?_) #[true, true, true, true, true, true, true, true, true, true, true, true, true, true, false] rfl rfl (any_of HT_.out (by kernel_rfl)) (fun _ _ _ h => h) (Or.inl ⟨by rfl, ?_⟩) ?_ ?_
    rotate_left
    ·intro w'
     go_simp
     with_reducible rfl
    rotate_left
    ·simp only [Act.put, setIfInBounds_toArray, set_cons_zero, set_cons_succ, i64_w]
     rfl
    refine pure_ (i := 14) (N := some 39) (v := ?_) (a' := ?_) #[true, true, true, true, true, true, true, true, true, true, true, true, true, true, true] rfl rfl (any_of HT_.out (by kernel_rfl)) (fun _ _ _ h => h) (Or.inl ⟨by rfl, ?_⟩) ?_ ?_
    rotate_left
    ·intro w'
     go_simp
     with_reducible rfl
    rotate_left
    ·simp only [Act.put, setIfInBounds_toArray, set_cons_zero, set_cons_succ, i64_w]
     rfl
    refine done_ (done_of HT_.out (by kernel_rfl)) ?_
    have HT2 := Aside0.mk (blk_below HT.out HB2.out)
    have z0 := blk_cell HT2.out 0
    have z1 := blk_cell HT2.out 1
    have zf0 := blk_frozen HT2.out 0
    have zf1 := blk_frozen HT2.out 1
    clear HSW d1 d2 d3 CV2 hHeld
    go_wp2
    refine bodyPost_ret (results_ct rfl _ _ T 26 #[.slice none 0 0, .slice none 0 0] (0, 0) _ rfl (blk2 HT2.out _ _) Try.underlying26 rfl (by kernel_rfl)) rfl ?_
    exact in_no HJ.out (below_set (below_set (bthen HB.out HB2.out) hT2) hT2)
   all_goals
    clear HSW d1 d2 d3 CV2 hHeld
    go_wp2
    go_roundw
    case rel => exact ⟨k + 1, by omega, by go_num, ⟨by rw [take_snoc HX.out]; intro r hr; rcases List.mem_append.1 hr with hr | hr; exact HA.out r hr; rw [List.mem_singleton.1 hr]; exact HASK.out⟩, HB2⟩
    case measure => simp [intOf]; omega
  ·have HAll := Aside0.mk (show ∀ r ∈ b, askOk f r.f2 = true by have := HA.out; rwa [List.take_of_length_le (by omega)] at this)
   clear HA
   have HTr := Aside0.mk (blk_below HT.out HBW.out)
   have HKr := Aside0.mk (blk_below HK.out HBW.out)
   have HSr := Aside0.mk (HS.out.below HBW.out)
   have HVr := Aside0.mk (HVB.out.below HBW.out)
   have HBr := Aside0.mk (bthen HB.out HBW.out)
   have kk0 : wr.cell? ⟨w.heap.size, 0, none⟩ = some (.slice A ls.length c) := blk_cell HKr.out 0
   have kk1 : wr.cell? ⟨w.heap.size, 1, none⟩ = some (.slice A2 f.length c2) := blk_cell HKr.out 1
   go_upto_region 9 with (go_at_call 84; ((with_reducible refine (spec_CopyH (.slice A ls.length c) (.slice A2 f.length c2) ls f _ HSr.out hb).mono ?_); rintro e w4 ⟨xa, xb, rfl, hr, hbb⟩; have HX := Aside0.mk (SpT.lower hr HBr.out.size); obtain ⟨A7, c7, rfl⟩ := Kd.R_slice hr.1; obtain ⟨A8, c8, rfl⟩ := Kd.R_slice hr.2; replace HTr := Aside0.mk (blk_below HTr.out hbb); replace HVr := Aside0.mk (HVr.out.below hbb); replace HBr := Aside0.mk (bthen HBr.out hbb); clear hr hbb kk0 kk1))
   refine name_world fun W5 hW5 => ?_
   have hb5 : Below w4.heap.size w4 W5 := hW5 ▸ below_alloc (Below.refl _ _) _
   obtain ⟨X, hX, hX1⟩ : ∃ X, X = w4.heap.size ∧ X < W5.heap.size := ⟨_, rfl, by rw [hW5]; simp⟩
   have HXB := Aside0.mk (show W5.heap[X]? = some (.cells #[.slice A7 ls.length c7, .slice A8 f.length c8] 26 (0, 0)) by rw [hW5, hX]; first | exact blk_new _ _ | simp)
   have hX2 : T < X := by rw [hX]; exact blk_lt HTr.out
   try rw [← hX]
   replace HTr := Aside0.mk (blk_below HTr.out hb5)
   replace HVr := Aside0.mk (HVr.out.below hb5)
   replace HBr := Aside0.mk (bthen HBr.out hb5)
   replace HX := Aside0.mk (HX.out.below hb5)
   have hbw : w.heap.size ≤ W5.heap.size := HBr.out.size
   clear hW5 hX hb5 HKr HSr HBW
   have X0 := blk_cell HXB.out 0
   have X1 := blk_cell HXB.out 1
   have HIB := Aside0.mk (show ls.length ≠ 6 → inBase ls f = ls from fun h => by unfold inBase; rw [if_neg h])
   have hl4 : ([] : List Rw).length + b.length < 3518437208000 := by simp only [List.length_nil]; omega
   have HL7 := Aside0.mk (show ls.length < 3518437208000 by omega)
   have HL6 := Aside0.mk (show (inBase ls f).length < 3518437208000 by
    unfold inBase
    split
    ·rename_i h6
     have hlt := leastTo_lt ls (ls.length - 1)
     rw [joinAt_len (show leastL6 ls + 1 < ls.length by unfold leastL6; omega)]
     omega
    ·omega)
   have hwX : w.heap.size ≤ X := by omega
   have HV0 := HVW
   by_cases h6 : ls.length = 6
   case pos =>
    obtain ⟨lk, hlk⟩ : ∃ lk : Int, lk = (leastL6 ls : Nat) := ⟨_, rfl⟩
    have CL0 := fun W h => spec_l12Least (.slice A7 ls.length c7) (.slice A8 f.length c8) ls f W h hb (by omega)
    have CJ0 := fun W h => spec_SpineJoin (.slice A7 ls.length c7) (.slice A8 f.length c8) ls f (leastL6 ls : Nat) W h hb
    rw [← hlk] at CL0 CJ0
    have HI1 := Aside0.mk (show joinB ls f lk = true → joinL ls f lk = inBase ls f ∧ joinF ls f lk = f from fun hj => by
     unfold joinL joinF inBase
     rw [if_pos hj, if_pos hj, if_pos h6, hlk, Int.toNat_natCast]
     exact ⟨rfl, rfl⟩)
    have HI4 := Aside0.mk (show joinB ls f lk = true → ls.length = 6 → joinB ls f (leastL6 ls : Nat) = true from fun h _ => by rw [← hlk]; exact h)
    have HI2 := Aside0.mk (show joinB ls f lk = false → inB ls f b = false from fun hj => in_not (fun h => by
     have := h.2.2.2.1 h6
     rw [← hlk, hj] at this
     cases this))
    have g6 : (6 : Int) ≤ (ls.length : Int) := by omega
    generalize joinL ls f lk = Lj at CJ0 HI1
    generalize joinF ls f lk = Fj at CJ0 HI1
    generalize joinB ls f lk = Bj at CJ0 HI1 HI2 HI4
    have CL := Aside0.mk CL0
    have CJ := Aside0.mk CJ0
    clear CL0 CJ0 h6 hlk
    go_upto_region 10 with fail
    replace X0 : W5.drew.cell? ⟨X, 0, none⟩ = some (.slice A7 ls.length c7) := blk_cell HXB.out 0
    replace X1 : W5.drew.cell? ⟨X, 1, none⟩ = some (.slice A8 f.length c8) := blk_cell HXB.out 1
    refine start_ (n := 10) (S := fun w' => w'.cell? ⟨X, 0, none⟩ = some (.slice A7 ls.length c7) ∧ w'.cell? ⟨X, 1, none⟩ = some (.slice A8 f.length c8)) (ds := [8]) #[false, false, false, false, false, false, false, false, false, false] (by kernel_rfl) rfl rfl ⟨X0, X1⟩ (fun hHeld => ?_)
    refine with_tabW tb_spec_SpineIn_10.tab tb_spec_SpineIn_10.bits (fun HT_ HW_ => ?_)
    refine take_ (i := 0) (N := some 48) (v := ?_) (a' := ?_) #[true, false, false, false, false, false, false, false, false, false] rfl rfl (take_ofW HT_.out HW_.out (by kernel_rfl)) (fun _ _ _ h => h) (Or.inl ⟨by rfl, ?_⟩) hHeld ?_ ?_
    rotate_left
    ·rintro w' ⟨s0, s1⟩
     go_simp
     with_reducible rfl
    rotate_left
    ·simp only [Act.put, setIfInBounds_toArray, set_cons_zero, set_cons_succ, i64_w]
     rfl
    refine take_ (i := 1) (N := some 49) (v := ?_) (a' := ?_) #[true, true, false, false, false, false, false, false, false, false] rfl rfl (take_ofW HT_.out HW_.out (by kernel_rfl)) (fun _ _ _ h => h) (Or.inl ⟨by rfl, ?_⟩) hHeld ?_ ?_
    rotate_left
    ·rintro w' ⟨s0, s1⟩
     go_simp
     with_reducible rfl
    rotate_left
    ·simp only [Act.put, setIfInBounds_toArray, set_cons_zero, set_cons_succ, i64_w]
     rfl
    refine join_ (σ := (Option Addr × Nat × Option Addr × Nat × Nat)) 2 #[true, true, true, true, true, true, true, true, false, false] (fun s => [(50, .int .i64 lk), (51, .tuple #[.agg #[.slice s.1 Lj.length s.2.1, .slice s.2.2.1 Fj.length s.2.2.2.1], .bool Bj]), (47, .tuple #[.agg #[.slice s.1 Lj.length s.2.1, .slice s.2.2.1 Fj.length s.2.2.2.1], .bool Bj]), (52, .agg #[.slice s.1 Lj.length s.2.1, .slice s.2.2.1 Fj.length s.2.2.2.1]), (53, .bool Bj), (8, .pointer (some ⟨s.2.2.2.2, 0, none⟩))]) (fun s w' => w'.cell? ⟨X, 0, none⟩ = some (.slice A7 ls.length c7) ∧ w'.cell? ⟨X, 1, none⟩ = some (.slice A8 f.length c8) ∧ W5.heap.size ≤ s.2.2.2.2 ∧ w'.heap[s.2.2.2.2]? = some (.cells #[.slice none 0 0, .slice none 0 0] 26 (0, 0)) ∧ SpT w' w.heap.size okT (.slice s.1 Lj.length s.2.1) (.slice s.2.2.1 Fj.length s.2.2.2.1) Lj Fj ∧ Below W5.heap.size W5 w') ?_ ?_
    rotate_left
    ·intro hCont
     refine two_ (i := 2) (j := 7) (Ni := some 50) (Nj := some 8) #[true, true, true, false, false, false, false, false, false, false] #[true, true, false, false, false, false, false, true, false, false] rfl rfl rfl rfl (two_of HT_.out (by kernel_rfl)) (by decide) (by decide) (fun K hK => ?_) (fun K hK => ?_)
     ·skip
      refine goes_ Try.func85 (by kernel_rfl) rfl #[.agg #[.slice A7 ls.length c7, .slice A8 f.length c8]] (by rfl) rfl rfl (by simp only [List.map_toArray, List.map_cons, List.map_nil]; rfl) ?_
      with_reducible refine (CL.out _ (HX.out.s.below (below_drew (Below.refl W5.heap.size W5)))).mono ?_
      rintro e wa ⟨rfl, hba0⟩
      refine ⟨_, rfl, ?_⟩
      have hba : Below W5.heap.size W5 wa := bthen (below_drew (Below.refl W5.heap.size W5)) hba0
      refine hK.out _ _ ⟨pw_cell_below hba X0, pw_cell_below hba X1⟩ (fun hHeld => ?_)
      clear hK K
      refine norm_ (a' := ?_) ?_ ?_
      rotate_left
      ·show Act.put _ (some 50) _ = _
       simp only [Act.put, setIfInBounds_toArray, set_cons_zero, set_cons_succ, i64_w]
       rfl
      refine two_ (i := 3) (j := 7) (Ni := some 51) (Nj := some 8) #[true, true, true, true, false, false, false, false, false, false] #[true, true, true, false, false, false, false, true, false, false] rfl rfl rfl rfl (two_of HT_.out (by kernel_rfl)) (by decide) (by decide) (fun K hK => ?_) (fun K hK => ?_)
      ·skip
       refine goes_ Try.func39 (by kernel_rfl) rfl #[.agg #[.slice A7 ls.length c7, .slice A8 f.length c8], .int .i64 lk] (by rfl) rfl rfl (by simp only [List.map_toArray, List.map_cons, List.map_nil]; rfl) ?_
       with_reducible refine (CJ.out _ (HX.out.s.below (hba))).mono ?_
       rintro e wb ⟨a9, b9, rfl, hr9, hbb0⟩
       refine ⟨_, rfl, ?_⟩
       obtain ⟨A9, c9, e9⟩ := Kd.R_slice hr9.1
       subst e9
       obtain ⟨A10, c10, e10⟩ := Kd.R_slice hr9.2
       subst e10
       have hbb : Below W5.heap.size W5 wb := bthen hba hbb0
       have HSJ := Aside0.mk (SpT.lower hr9 (Nat.le_trans hbw (hba).size))
       refine hK.out _ _ ⟨pw_cell_below hbb X0, pw_cell_below hbb X1⟩ (fun hHeld => ?_)
       clear hK K
       refine norm_ (a' := ?_) ?_ ?_
       rotate_left
       ·show Act.put _ (some 51) _ = _
        simp only [Act.put, setIfInBounds_toArray, set_cons_zero, set_cons_succ, i64_w]
        rfl
       refine pure_ (i := 4) (N := some 47) (v := ?_) (a' := ?_) #[true, true, true, true, true, false, false, false, false, false] rfl rfl (any_of HT_.out (by kernel_rfl)) (fun _ _ _ h => h) (Or.inl ⟨by rfl, ?_⟩) ?_ ?_
       rotate_left
       ·intro w'
        go_simp
        with_reducible rfl
       rotate_left
       ·simp only [Act.put, setIfInBounds_toArray, set_cons_zero, set_cons_succ, i64_w]
        rfl
       refine pure_ (i := 5) (N := some 52) (v := ?_) (a' := ?_) #[true, true, true, true, true, true, false, false, false, false] rfl rfl (any_of HT_.out (by kernel_rfl)) (fun _ _ _ h => h) (Or.inl ⟨by rfl, ?_⟩) ?_ ?_
       rotate_left
       ·intro w'
        go_simp
        with_reducible rfl
       rotate_left
       ·simp only [Act.put, setIfInBounds_toArray, set_cons_zero, set_cons_succ, i64_w]
        rfl
       refine pure_ (i := 6) (N := some 53) (v := ?_) (a' := ?_) #[true, true, true, true, true, true, true, false, false, false] rfl rfl (any_of HT_.out (by kernel_rfl)) (fun _ _ _ h => h) (Or.inl ⟨by rfl, ?_⟩) ?_ ?_
       rotate_left
       ·intro w'
        go_simp
        with_reducible rfl
       rotate_left
       ·simp only [Act.put, setIfInBounds_toArray, set_cons_zero, set_cons_succ, i64_w]
        rfl
       refine one_ (i := 7) (N := some 8) #[true, true, true, true, true, true, true, true, false, false] rfl rfl (one_of HT_.out (by kernel_rfl)) (by decide) (fun K hK => ?_)
       refine box_step ?hb9 (N := 8) ?hd9 (cs := #[.slice none 0 0, .slice none 0 0]) (t := 26) ?hr9 ?_; (case hd9 => rfl); (case hb9 => rfl); (case hr9 => first|(go_simp; done)|(go_simp; rfl))
       intro Y hYe wy hy hby
       have HY := Aside0.mk hy
       have hYN : W5.heap.size ≤ Y := by rw [hYe]; exact (hbb).size
       have hbe : Below W5.heap.size W5 wy := bthen (hbb) hby
       replace HSJ := Aside0.mk (HSJ.out.below hby)
       clear hy hYe
       refine hK.out _ _ ⟨pw_cell_below hbe X0, pw_cell_below hbe X1⟩ (fun hHeld => ?_)
       clear hK K
       refine norm_ (a' := ?_) ?_ ?_
       rotate_left
       ·show Act.put _ (some 8) _ = _
        simp only [Act.put, setIfInBounds_toArray, set_cons_zero, set_cons_succ, i64_w]
        rfl
       exact norm_ (by simp only [Go.Proofs.YtkdendlgaaimbaaW.PrintLast.putAll, Act.put, List.setIfInBounds_toArray, List.set_cons_zero, List.set_cons_succ]) (hCont (A9, c9, A10, c10, Y) _ ⟨pw_cell_below hbe X0, pw_cell_below hbe X1, hYN, HY.out, HSJ.out, hbe⟩)
      ·skip
       refine box_step ?hb9 (N := 8) ?hd9 (cs := #[.slice none 0 0, .slice none 0 0]) (t := 26) ?hr9 ?_; (case hd9 => rfl); (case hb9 => rfl); (case hr9 => first|(go_simp; done)|(go_simp; rfl))
       intro Y hYe wy hy hby
       have HY := Aside0.mk hy
       have hYN : W5.heap.size ≤ Y := by rw [hYe]; exact (hba).size
       have hbe : Below W5.heap.size W5 wy := bthen (hba) hby
       clear hy hYe
       refine hK.out _ _ ⟨pw_cell_below hbe X0, pw_cell_below hbe X1⟩ (fun hHeld => ?_)
       clear hK K
       refine norm_ (a' := ?_) ?_ ?_
       rotate_left
       ·show Act.put _ (some 8) _ = _
        simp only [Act.put, setIfInBounds_toArray, set_cons_zero, set_cons_succ, i64_w]
        rfl
       refine one_ (i := 3) (N := some 51) #[true, true, true, true, false, false, false, true, false, false] rfl rfl (one_of HT_.out (by kernel_rfl)) (by decide) (fun K hK => ?_)
       refine goes_ Try.func39 (by kernel_rfl) rfl #[.agg #[.slice A7 ls.length c7, .slice A8 f.length c8], .int .i64 lk] (by rfl) rfl rfl (by simp only [List.map_toArray, List.map_cons, List.map_nil]; rfl) ?_
       with_reducible refine (CJ.out _ (HX.out.s.below (hbe))).mono ?_
       rintro e wb ⟨a9, b9, rfl, hr9, hbb0⟩
       refine ⟨_, rfl, ?_⟩
       obtain ⟨A9, c9, e9⟩ := Kd.R_slice hr9.1
       subst e9
       obtain ⟨A10, c10, e10⟩ := Kd.R_slice hr9.2
       subst e10
       have hbb : Below W5.heap.size W5 wb := bthen hbe hbb0
       have HSJ := Aside0.mk (SpT.lower hr9 (Nat.le_trans hbw (hbe).size))
       replace HY := Aside0.mk (blk_below HY.out hbb0)
       refine hK.out _ _ ⟨pw_cell_below hbb X0, pw_cell_below hbb X1⟩ (fun hHeld => ?_)
       clear hK K
       refine norm_ (a' := ?_) ?_ ?_
       rotate_left
       ·show Act.put _ (some 51) _ = _
        simp only [Act.put, setIfInBounds_toArray, set_cons_zero, set_cons_succ, i64_w]
        rfl
       refine pure_ (i := 4) (N := some 47) (v := ?_) (a' := ?_) #[true, true, true, true, true, false, false, true, false, false] rfl rfl (any_of HT_.out (by kernel_rfl)) (fun _ _ _ h => h) (Or.inl ⟨by rfl, ?_⟩) ?_ ?_
       rotate_left
       ·intro w'
        go_simp
        with_reducible rfl
       rotate_left
       ·simp only [Act.put, setIfInBounds_toArray, set_cons_zero, set_cons_succ, i64_w]
        rfl
       refine pure_ (i := 5) (N := some 52) (v := ?_) (a' := ?_) #[true, true, true, true, true, true, false, true, false, false] rfl rfl (any_of HT_.out (by kernel_rfl)) (fun _ _ _ h => h) (Or.inl ⟨by rfl, ?_⟩) ?_ ?_
       rotate_left
       ·intro w'
        go_simp
        with_reducible rfl
       rotate_left
       ·simp only [Act.put, setIfInBounds_toArray, set_cons_zero, set_cons_succ, i64_w]
        rfl
       refine pure_ (i := 6) (N := some 53) (v := ?_) (a' := ?_) #[true, true, true, true, true, true, true, true, false, false] rfl rfl (any_of HT_.out (by kernel_rfl)) (fun _ _ _ h => h) (Or.inl ⟨by rfl, ?_⟩) ?_ ?_
       rotate_left
       ·intro w'
        go_simp
        with_reducible rfl
       rotate_left
       ·simp only [Act.put, setIfInBounds_toArray, set_cons_zero, set_cons_succ, i64_w]
        rfl
       exact norm_ (by simp only [Go.Proofs.YtkdendlgaaimbaaW.PrintLast.putAll, Act.put, List.setIfInBounds_toArray, List.set_cons_zero, List.set_cons_succ]) (hCont (A9, c9, A10, c10, Y) _ ⟨pw_cell_below hbb X0, pw_cell_below hbb X1, hYN, HY.out, HSJ.out, hbb⟩)
     ·skip
      refine box_step ?hb9 (N := 8) ?hd9 (cs := #[.slice none 0 0, .slice none 0 0]) (t := 26) ?hr9 ?_; (case hd9 => rfl); (case hb9 => rfl); (case hr9 => first|(go_simp; done)|(go_simp; rfl))
      intro Y hYe wy hy hby
      have HY := Aside0.mk hy
      have hYN : W5.heap.size ≤ Y := by rw [hYe]; exact (below_drew (Below.refl W5.heap.size W5)).size
      have hbe : Below W5.heap.size W5 wy := bthen (below_drew (Below.refl W5.heap.size W5)) hby
      clear hy hYe
      refine hK.out _ _ ⟨pw_cell_below hbe X0, pw_cell_below hbe X1⟩ (fun hHeld => ?_)
      clear hK K
      refine norm_ (a' := ?_) ?_ ?_
      rotate_left
      ·show Act.put _ (some 8) _ = _
       simp only [Act.put, setIfInBounds_toArray, set_cons_zero, set_cons_succ, i64_w]
       rfl
      refine one_ (i := 2) (N := some 50) #[true, true, true, false, false, false, false, true, false, false] rfl rfl (one_of HT_.out (by kernel_rfl)) (by decide) (fun K hK => ?_)
      refine goes_ Try.func85 (by kernel_rfl) rfl #[.agg #[.slice A7 ls.length c7, .slice A8 f.length c8]] (by rfl) rfl rfl (by simp only [List.map_toArray, List.map_cons, List.map_nil]; rfl) ?_
      with_reducible refine (CL.out _ (HX.out.s.below (hbe))).mono ?_
      rintro e wa ⟨rfl, hba0⟩
      refine ⟨_, rfl, ?_⟩
      have hba : Below W5.heap.size W5 wa := bthen hbe hba0
      replace HY := Aside0.mk (blk_below HY.out hba0)
      refine hK.out _ _ ⟨pw_cell_below hba X0, pw_cell_below hba X1⟩ (fun hHeld => ?_)
      clear hK K
      refine norm_ (a' := ?_) ?_ ?_
      rotate_left
      ·show Act.put _ (some 50) _ = _
       simp only [Act.put, setIfInBounds_toArray, set_cons_zero, set_cons_succ, i64_w]
       rfl
      refine one_ (i := 3) (N := some 51) #[true, true, true, true, false, false, false, true, false, false] rfl rfl (one_of HT_.out (by kernel_rfl)) (by decide) (fun K hK => ?_)
      refine goes_ Try.func39 (by kernel_rfl) rfl #[.agg #[.slice A7 ls.length c7, .slice A8 f.length c8], .int .i64 lk] (by rfl) rfl rfl (by simp only [List.map_toArray, List.map_cons, List.map_nil]; rfl) ?_
      with_reducible refine (CJ.out _ (HX.out.s.below (hba))).mono ?_
      rintro e wb ⟨a9, b9, rfl, hr9, hbb0⟩
      refine ⟨_, rfl, ?_⟩
      obtain ⟨A9, c9, e9⟩ := Kd.R_slice hr9.1
      subst e9
      obtain ⟨A10, c10, e10⟩ := Kd.R_slice hr9.2
      subst e10
      have hbb : Below W5.heap.size W5 wb := bthen hba hbb0
      have HSJ := Aside0.mk (SpT.lower hr9 (Nat.le_trans hbw (hba).size))
      replace HY := Aside0.mk (blk_below HY.out hbb0)
      refine hK.out _ _ ⟨pw_cell_below hbb X0, pw_cell_below hbb X1⟩ (fun hHeld => ?_)
      clear hK K
      refine norm_ (a' := ?_) ?_ ?_
      rotate_left
      ·show Act.put _ (some 51) _ = _
       simp only [Act.put, setIfInBounds_toArray, set_cons_zero, set_cons_succ, i64_w]
       rfl
      refine pure_ (i := 4) (N := some 47) (v := ?_) (a' := ?_) #[true, true, true, true, true, false, false, true, false, false] rfl rfl (any_of HT_.out (by kernel_rfl)) (fun _ _ _ h => h) (Or.inl ⟨by rfl, ?_⟩) ?_ ?_
      rotate_left
      ·intro w'
       go_simp
       with_reducible rfl
      rotate_left
      ·simp only [Act.put, setIfInBounds_toArray, set_cons_zero, set_cons_succ, i64_w]
       rfl
      refine pure_ (i := 5) (N := some 52) (v := ?_) (a' := ?_) #[true, true, true, true, true, true, false, true, false, false] rfl rfl (any_of HT_.out (by kernel_rfl)) (fun _ _ _ h => h) (Or.inl ⟨by rfl, ?_⟩) ?_ ?_
      rotate_left
      ·intro w'
       go_simp
       with_reducible rfl
      rotate_left
      ·simp only [Act.put, setIfInBounds_toArray, set_cons_zero, set_cons_succ, i64_w]
       rfl
      refine pure_ (i := 6) (N := some 53) (v := ?_) (a' := ?_) #[true, true, true, true, true, true, true, true, false, false] rfl rfl (any_of HT_.out (by kernel_rfl)) (fun _ _ _ h => h) (Or.inl ⟨by rfl, ?_⟩) ?_ ?_
      rotate_left
      ·intro w'
       go_simp
       with_reducible rfl
      rotate_left
      ·simp only [Act.put, setIfInBounds_toArray, set_cons_zero, set_cons_succ, i64_w]
       rfl
      exact norm_ (by simp only [Go.Proofs.YtkdendlgaaimbaaW.PrintLast.putAll, Act.put, List.setIfInBounds_toArray, List.set_cons_zero, List.set_cons_succ]) (hCont (A9, c9, A10, c10, Y) _ ⟨pw_cell_below hbb X0, pw_cell_below hbb X1, hYN, HY.out, HSJ.out, hbb⟩)
    rintro ⟨A9, c9, A10, c10, Y⟩ wc ⟨C0, C1, hYN, hy, hsj, hbc⟩
    have HY := Aside0.mk hy
    have HSJ := Aside0.mk hsj
    have y0 := blk_cell hy 0
    have y1 := blk_cell hy 1
    have yf0 := blk_frozen hy 0
    have yf1 := blk_frozen hy 1
    clear hy hsj
    have hHeld : wc.cell? ⟨X, 0, none⟩ = some (.slice A7 ls.length c7) ∧ wc.cell? ⟨X, 1, none⟩ = some (.slice A8 f.length c8) := ⟨C0, C1⟩
    refine norm_ (a' := ?_) ?_ ?_
    rotate_left
    ·simp only [Go.Proofs.YtkdendlgaaimbaaW.PrintLast.putAll, Act.put, List.setIfInBounds_toArray, List.set_cons_zero, List.set_cons_succ]
     rfl
    refine last_ (i := 8) (N := none) #[true, true, true, true, true, true, true, true, true, false] rfl rfl (one_of HT_.out (by kernel_rfl)) (by decide) (fun K hK => ?_)
    refine skip_ (w1 := ?_) (by rfl) rfl ?_ ?_
    rotate_left
    ·go_simp
     rfl
    refine hK.out _ _ ?_
    clear hK K
    refine pure_ (i := 9) (N := some 9) (v := ?_) (a' := ?_) #[true, true, true, true, true, true, true, true, true, true] rfl rfl (any_of HT_.out (by kernel_rfl)) (fun _ _ _ h => h) (Or.inl ⟨by rfl, ?_⟩) ?_ ?_
    rotate_left
    ·intro w'
     go_simp
     with_reducible rfl
    rotate_left
    ·simp only [Act.put, setIfInBounds_toArray, set_cons_zero, set_cons_succ, i64_w]
     rfl
    refine done_ (done_of HT_.out (by kernel_rfl)) ?_
    have hyd := blk2 HY.out (.slice A9 Lj.length c9) (.slice A10 Fj.length c10)
    have hbd := below_set (g := Y) (j := 1) (v := .slice A10 Fj.length c10) (below_set (g := Y) (j := 0) (v := .slice A9 Lj.length c9) hbc hYN) hYN
    have hvd : SpT ((wc.setCell ⟨Y, 0, none⟩ (.slice A9 Lj.length c9)).setCell ⟨Y, 1, none⟩ (.slice A10 Fj.length c10)) w.heap.size okT (.slice A9 Lj.length c9) (.slice A10 Fj.length c10) Lj Fj := ⟨Kd.R_mono (Kd.R_far (Kd.R_far (offT HSJ.out.1 HY.out (by decide)) (p := ⟨Y, 0, none⟩) (fun k hk => hk.2) _) (p := ⟨Y, 1, none⟩) (fun k hk => hk.2) _) (fun _ _ => trivial), Kd.R_mono (Kd.R_far (Kd.R_far (offT HSJ.out.2 HY.out (by decide)) (p := ⟨Y, 0, none⟩) (fun k hk => hk.2) _) (p := ⟨Y, 1, none⟩) (fun k hk => hk.2) _) (fun _ _ => trivial)⟩
    obtain ⟨wd, hwd⟩ : ∃ wd, wd = (wc.setCell ⟨Y, 0, none⟩ (.slice A9 Lj.length c9)).setCell ⟨Y, 1, none⟩ (.slice A10 Fj.length c10) := ⟨_, rfl⟩
    rw [← hwd] at hyd hvd hbd ⊢
    have HYD := Aside0.mk hyd
    have HVD := Aside0.mk hvd
    have HBD := Aside0.mk hbd
    have HTD := Aside0.mk (blk_below HTr.out hbd)
    have HXD := Aside0.mk (blk_below HXB.out hbd)
    clear hwd hyd hvd hbd hHeld C0 C1 y0 y1 yf0 yf1 HY HSJ hbc X0 X1 CL CJ
    cases Bj
    ·have HJ := Aside0.mk (HI2.out rfl)
     have z0 := blk_cell HTD.out 0
     have z1 := blk_cell HTD.out 1
     have zf0 := blk_frozen HTD.out 0
     have zf1 := blk_frozen HTD.out 1
     go_wp2
     refine bodyPost_ret (results_ct rfl _ _ T 26 #[.slice none 0 0, .slice none 0 0] (0, 0) _ rfl (blk2 HTD.out _ _) Try.underlying26 rfl (by kernel_rfl)) rfl ?_
     exact in_no HJ.out (below_set (below_set (bthen HBr.out HBD.out) hT2) hT2)
    ·obtain ⟨e1, e2⟩ := HI1.out rfl
     subst e1
     have e3 := e2.symm
     subst e3
     have y0 := blk_cell HYD.out 0
     have y1 := blk_cell HYD.out 1
     have z0 := blk_cell HXD.out 0
     have z1 := blk_cell HXD.out 1
     have zf0 := blk_frozen HXD.out 0
     have zf1 := blk_frozen HXD.out 1
     go_upto_region 14 with fail
     have hxt := blk2 HXD.out (.slice A9 (inBase ls f).length c9) (.slice A10 f.length c10)
     have hst1 := Kd.R_far (Kd.R_far (offT HVD.out.1 HXD.out (by decide)) (p := ⟨X, 0, none⟩) (fun k hk => hk.2) (.slice A9 (inBase ls f).length c9)) (p := ⟨X, 1, none⟩) (fun k hk => hk.2) (.slice A10 f.length c10)
     have hst2 := Kd.R_far (Kd.R_far (offT HVD.out.2 HXD.out (by decide)) (p := ⟨X, 0, none⟩) (fun k hk => hk.2) (.slice A9 (inBase ls f).length c9)) (p := ⟨X, 1, none⟩) (fun k hk => hk.2) (.slice A10 f.length c10)
     have htt := blk_far (blk_far HTD.out (p := ⟨X, 0, none⟩) (Nat.ne_of_lt hX2) (.slice A9 (inBase ls f).length c9)) (p := ⟨X, 1, none⟩) (Nat.ne_of_lt hX2) (.slice A10 f.length c10)
     have hbt := below_set (g := X) (j := 1) (v := .slice A10 f.length c10) (below_set (g := X) (j := 0) (v := .slice A9 (inBase ls f).length c9) (bthen HBr.out HBD.out) hwX) hwX
     have hvt := HV0.out.below (w1 := (wd.setCell ⟨X, 0, none⟩ (.slice A9 (inBase ls f).length c9)).setCell ⟨X, 1, none⟩ (.slice A10 f.length c10)) hbt
     obtain ⟨wt, hwt⟩ : ∃ wt, wt = (wd.setCell ⟨X, 0, none⟩ (.slice A9 (inBase ls f).length c9)).setCell ⟨X, 1, none⟩ (.slice A10 f.length c10) := ⟨_, rfl⟩
     rw [← hwt] at hxt hst1 hst2 htt hbt hvt ⊢
     have HXt := Aside0.mk hxt
     have HSL := Aside0.mk (Kd.R_mono (offT hst1 htt (by decide)) (ok' := fun q => q ≠ X ∧ q ≠ T) (fun q hq => ⟨hq.1.2, hq.2⟩))
     have HFt := Aside0.mk hst2
     have HTt := Aside0.mk htt
     have HBt := Aside0.mk hbt
     have HVt := Aside0.mk hvt
     have HOl := Aside0.mk (fun q hq => ((Kd.R_bound HSL.out).1 q hq).2.2.1)
     have HIE := Aside0.mk (show SameL (inBase ls f) (inBase ls f) from rfl)
     have HI3 := Aside0.mk (HI4.out rfl)
     have hl6 : (inBase ls f).length < 3518437208000 := HL6.out
     clear hwt hxt hst1 hst2 htt hbt hvt y0 y1 z0 z1 zf0 zf1 HXD HVD HBD HTD HYD
     have hXlt := blk_lt HXt.out
     have hTlt := blk_lt HTt.out
     have HXl := Aside0.mk (And.intro hXlt hTlt)
     clear hXlt hTlt
     have X0 : wt.drew.cell? ⟨X, 0, none⟩ = some (.slice A9 ((inBase ls f).length) c9) := blk_cell HXt.out 0
     refine start_ (n := 9) (S := fun w' => w'.cell? ⟨X, 0, none⟩ = some (.slice A9 ((inBase ls f).length) c9)) (ds := [8]) #[false, false, false, false, false, false, false, false, false] (by kernel_rfl) rfl rfl (X0) (fun hHeld => ?_)
     refine with_tabW tb_spec_SpineIn_14.tab tb_spec_SpineIn_14.bits (fun HT_ HW_ => ?_)
     refine pure_ (i := 0) (N := some 58) (v := ?_) (a' := ?_) #[true, false, false, false, false, false, false, false, false] rfl rfl (any_of HT_.out (by kernel_rfl)) (fun _ _ _ h => h) (Or.inl ⟨by rfl, ?_⟩) ?_ ?_
     rotate_left
     ·intro w'
      go_simp
      with_reducible rfl
     rotate_left
     ·simp only [Act.put, setIfInBounds_toArray, set_cons_zero, set_cons_succ, i64_w]
      rfl
     refine pure_ (i := 3) (N := some 61) (v := ?_) (a' := ?_) #[true, false, false, true, false, false, false, false, false] rfl rfl (any_of HT_.out (by kernel_rfl)) (fun _ _ _ h => h) (Or.inl ⟨by rfl, ?_⟩) ?_ ?_
     rotate_left
     ·intro w'
      go_simp
      with_reducible rfl
     rotate_left
     ·simp only [Act.put, setIfInBounds_toArray, set_cons_zero, set_cons_succ, i64_w]
      rfl
     refine take_ (i := 1) (N := some 59) (v := ?_) (a' := ?_) #[true, true, false, true, false, false, false, false, false] rfl rfl (take_ofW HT_.out HW_.out (by kernel_rfl)) (fun _ _ _ h => h) (Or.inl ⟨by rfl, ?_⟩) hHeld ?_ ?_
     rotate_left
     ·intro w' s0
      go_simp
      with_reducible rfl
     rotate_left
     ·simp only [Act.put, setIfInBounds_toArray, set_cons_zero, set_cons_succ, i64_w]
      rfl
     refine one_ (i := 2) (N := some 60) #[true, true, true, true, false, false, false, false, false] rfl rfl (one_of HT_.out (by kernel_rfl)) (by decide) (fun K hK => ?_)
     refine Kd.R_lit_step kRw _ 102 ?hg (N := 60) ?hd (xs := ([] : List Rw)) (inner := []) (ok := okT) (okp := fun _ => True) ?hr ?hp (fun _ hk => hk) trivial (Below.refl _ _) (Nat.le_refl _) (by simp) ?_; (case hd => rfl); (case hg => rfl); (case hr => first|(go_simp; done)|(go_simp; rfl)); (case hp => exact (Reps.none _ _))
     intro v1 w1 hr1 hb1 hg1 hn1_
     have HO1 := Aside0.mk hr1
     have hbw1 : Below wt.heap.size wt w1 := bthen (below_drew (Below.refl _ _)) hb1
     clear hr1 hb1 hg1 hn1_
     refine hK.out _ _ (pw_cell_below hbw1 X0) (fun hHeld => ?_)
     clear hK K
     refine norm_ (a' := ?_) ?_ ?_
     rotate_left
     ·show Act.put _ (some 60) _ = _
      simp only [Act.put, setIfInBounds_toArray, set_cons_zero, set_cons_succ, i64_w]
      rfl
     refine one_ (i := 4) (N := some 62) #[true, true, true, true, true, false, false, false, false] rfl rfl (one_of HT_.out (by kernel_rfl)) (by decide) (fun K hK => ?_)
     refine stepRows (W := w1) (base := wt.heap.size) (xs := []) (ys := b) (A := A3) (c := c3) (ok := okT) rfl rfl rfl HO1.out (HVt.out.below hbw1) (fun _ _ => trivial) hbw1.size hl4 ?_
     intro v2 w2 hr2 hb2 hg2
     rw [List.nil_append] at hr2
     obtain ⟨A12, c12, e12⟩ := Kd.R_slice hr2
     subst e12
     have HO2 := Aside0.mk hr2
     have hbw2 : Below wt.heap.size wt w2 := below_more hbw1 hb2
     clear hr2 hb2 hg2
     refine hK.out _ _ (pw_cell_below hbw2 X0) (fun hHeld => ?_)
     clear hK K
     refine norm_ (a' := ?_) ?_ ?_
     rotate_left
     ·show Act.put _ (some 62) _ = _
      simp only [Act.put, setIfInBounds_toArray, set_cons_zero, set_cons_succ, i64_w]
      rfl
     refine one_ (i := 5) (N := some 63) #[true, true, true, true, true, true, false, false, false] rfl rfl (one_of HT_.out (by kernel_rfl)) (by decide) (fun K hK => ?_)
     refine value_ (w1 := ?_) (v := ?_) (by rfl) rfl ?_ ?_
     rotate_left 2
     ·go_simp
      constructor
      ·rfl
      ·rfl
     refine hK.out _ _ (pw_cell_below (below_alloc hbw2 _) X0) (fun hHeld => ?_)
     clear hK K
     refine norm_ (a' := ?_) ?_ ?_
     rotate_left
     ·show Act.put _ (some 63) _ = _
      simp only [Act.put, setIfInBounds_toArray, set_cons_zero, set_cons_succ, i64_w]
      rfl
     refine one_ (i := 6) (N := some 64) #[true, true, true, true, true, true, true, false, false] rfl rfl (one_of HT_.out (by kernel_rfl)) (by decide) (fun K hK => ?_)
     refine stepLay1 (W := w2) (base := w.heap.size) (xs := inBase ls f) (y := b) (u := .slice A12 b.length c12) (ok := fun q => q ≠ X ∧ q ≠ T) (okp := fun q => wt.heap.size ≤ q) rfl rfl rfl (Kd.R_below HSL.out hbw2) (sh_M (Kd.R_lower (Kd.R_mono (Kd.R_bound HO2.out) (fun q hq => hq.2.1)) HBt.out.size)) (fun q hq => ⟨⟨Ne.symm (Nat.ne_of_lt (Nat.lt_of_lt_of_le HXl.out.1 hq)), Ne.symm (Nat.ne_of_lt (Nat.lt_of_lt_of_le HXl.out.2 hq))⟩, fun e => Nat.lt_irrefl _ (Nat.lt_of_lt_of_le (HOl.out q e.symm) hq)⟩) (fun q hq => ⟨Ne.symm (Nat.ne_of_lt (Nat.lt_of_lt_of_le HXl.out.1 (Nat.le_trans hbw2.size hq))), Ne.symm (Nat.ne_of_lt (Nat.lt_of_lt_of_le HXl.out.2 (Nat.le_trans hbw2.size hq)))⟩) (Nat.le_trans HBt.out.size hbw2.size) hl6 ?_
     intro v14 w3 hr3 hb3 hg3
     obtain ⟨A14, c14, e14⟩ := Kd.R_slice hr3
     obtain ⟨m14, hm14⟩ : ∃ m, m = (inBase ls f ++ [b]).length := ⟨_, rfl⟩
     rw [← hm14] at e14
     subst e14
     clear hm14
     have HL3 := Aside0.mk hr3
     have HX3 := Aside0.mk ((hg3.block X (Nat.lt_of_lt_of_le HXl.out.1 hbw2.size) (fun e => (HSL.out.1 X e.symm).1 rfl)).trans (blk_below HXt.out hbw2))
     have HT3 := Aside0.mk ((hg3.block T (Nat.lt_of_lt_of_le HXl.out.2 hbw2.size) (fun e => (HSL.out.1 T e.symm).2 rfl)).trans (blk_below HTt.out hbw2))
     have hg4 : w2.grownBy w3 (Value.slice A9 ((inBase ls f).length) c9).ownBlock := hg3
     have HF3 := Aside0.mk (Kd.R_over (Kd.R_below HFt.out hbw2) (Kd.R_below HSL.out hbw2) (by decide) hg4)
     have HB3 := Aside0.mk (below_more (bthen HBt.out hbw2) hb3)
     have x0 := blk_cell HX3.out 0
     have xf0 := blk_frozen HX3.out 0
     clear hr3 hb3 hg3
     refine hK.out _ _ (x0) (fun hHeld => ?_)
     clear hK K
     refine norm_ (a' := ?_) ?_ ?_
     rotate_left
     ·show Act.put _ (some 64) _ = _
      simp only [Act.put, setIfInBounds_toArray, set_cons_zero, set_cons_succ, i64_w]
      rfl
     refine pure_ (i := 7) (N := some 65) (v := ?_) (a' := ?_) #[true, true, true, true, true, true, true, true, false] rfl rfl (any_of HT_.out (by kernel_rfl)) (fun _ _ _ h => h) (Or.inl ⟨by rfl, ?_⟩) ?_ ?_
     rotate_left
     ·intro w'
      go_simp
      with_reducible rfl
     rotate_left
     ·simp only [Act.put, setIfInBounds_toArray, set_cons_zero, set_cons_succ, i64_w]
      rfl
     refine last_ (i := 8) (N := none) #[true, true, true, true, true, true, true, true, true] rfl rfl (one_of HT_.out (by kernel_rfl)) (by decide) (fun K hK => ?_)
     refine skip_ (w1 := ?_) (by rfl) rfl ?_ ?_
     rotate_left
     ·go_simp
      rfl
     refine hK.out _ _ ?_
     clear hK K
     refine done_ (done_of HT_.out (by kernel_rfl)) ?_
     have hxz := blk_set HX3.out 0 (.slice A14 m14 c14)
     have hlz := Kd.R_far HL3.out (p := ⟨X, 0, none⟩) (fun k hk => hk.1) (.slice A14 m14 c14)
     have hfz := Kd.R_far (offT HF3.out HX3.out (by decide)) (p := ⟨X, 0, none⟩) (fun k hk => hk.2) (.slice A14 m14 c14)
     have htz := blk_far HT3.out (p := ⟨X, 0, none⟩) (Nat.ne_of_lt hX2) (.slice A14 m14 c14)
     have hbz := below_set (g := X) (j := 0) (v := .slice A14 m14 c14) HB3.out hwX
     obtain ⟨wz, hwz⟩ : ∃ wz, wz = w3.setCell ⟨X, 0, none⟩ (.slice A14 m14 c14) := ⟨_, rfl⟩
     rw [← hwz] at hxz hlz hfz htz hbz ⊢
     have x1 : wz.cell? ⟨X, 0, none⟩ = some (.slice A14 m14 c14) := blk_cell hxz 0
     have x2 : wz.cell? ⟨X, 1, none⟩ = some (.slice A10 f.length c10) := blk_cell hxz 1
     have HXZ := Aside0.mk hxz
     have HLZ := Aside0.mk hlz
     have HFZ := Aside0.mk hfz
     have HTZ := Aside0.mk htz
     have HBZ := Aside0.mk hbz
     clear hwz hxz hlz hfz htz hbz x0 xf0 hHeld HX3 HL3 HF3 HT3 HB3 X0
     by_cases hok2 : spineOk (inBase ls f ++ [b]) f = true
     ·have HJ := Aside0.mk (show inB ls f b = true from inB_iff.2 ⟨hso, hbo, HAll.out, HI3.out, by rw [show inBase ls f = inBase ls f from HIE.out]; exact spineOk_iff.1 hok2⟩)
      go_wp2_with (go_at_call 28; ((with_reducible refine (spec_SpineOk _ _ (inBase ls f ++ [b]) f _ (Sl.of_Sh HLZ.out) (Sl.of_R HFZ.out)).mono ?_); rintro e w' ⟨rfl, hbb⟩; rw [hok2]; replace HTZ := Aside0.mk (blk_below HTZ.out hbb); replace HLZ := Aside0.mk (Kd.R_below HLZ.out hbb); replace HFZ := Aside0.mk (Kd.R_below HFZ.out hbb); replace HBZ := Aside0.mk (bthen HBZ.out hbb); replace x1 := pw_cell_below hbb x1; replace x2 := pw_cell_below hbb x2; have z0 := blk_cell HTZ.out 0; have z1 := blk_cell HTZ.out 1; have zf0 := blk_frozen HTZ.out 0; have zf1 := blk_frozen HTZ.out 1; clear hbb))
      refine bodyPost_ret (results_ct rfl _ _ T 26 #[.slice A14 m14 c14, .slice A10 f.length c10] (0, 0) _ rfl (blk2 HTZ.out _ _) Try.underlying26 rfl (by kernel_rfl)) rfl ?_
      refine in_yes HJ.out ?_ (below_set (below_set HBZ.out hT2) hT2)
      rw [show inBase ls f = inBase ls f from HIE.out]
      exact ⟨Kd.R_mono (Kd.R_far (Kd.R_far HLZ.out (p := ⟨T, 0, none⟩) (fun k hk => hk.2) _) (p := ⟨T, 1, none⟩) (fun k hk => hk.2) _) (fun _ _ => trivial), Kd.R_mono (Kd.R_far (Kd.R_far (offT HFZ.out HTZ.out (by decide)) (p := ⟨T, 0, none⟩) (fun k hk => hk.2) _) (p := ⟨T, 1, none⟩) (fun k hk => hk.2) _) (fun _ _ => trivial)⟩
     ·have hok3 : spineOk (inBase ls f ++ [b]) f = false := by cases h : spineOk (inBase ls f ++ [b]) f; rfl; exact absurd h hok2
      have HJ := Aside0.mk (show inB ls f b = false from in_not (fun h => hok2 (by have := h.2.2.2.2; rw [show inBase ls f = inBase ls f from HIE.out] at this; exact spineOk_iff.2 this)))
      go_wp2_with (go_at_call 28; ((with_reducible refine (spec_SpineOk _ _ (inBase ls f ++ [b]) f _ (Sl.of_Sh HLZ.out) (Sl.of_R HFZ.out)).mono ?_); rintro e w' ⟨rfl, hbb⟩; rw [hok3]; replace HTZ := Aside0.mk (blk_below HTZ.out hbb); replace HBZ := Aside0.mk (bthen HBZ.out hbb); have z0 := blk_cell HTZ.out 0; have z1 := blk_cell HTZ.out 1; have zf0 := blk_frozen HTZ.out 0; have zf1 := blk_frozen HTZ.out 1; clear hbb))
      refine bodyPost_ret (results_ct rfl _ _ T 26 #[.slice none 0 0, .slice none 0 0] (0, 0) _ rfl (blk2 HTZ.out _ _) Try.underlying26 rfl (by kernel_rfl)) rfl ?_
      exact in_no HJ.out (below_set (below_set HBZ.out hT2) hT2)
   case neg =>
    have g6 : ¬ ((6 : Int) ≤ (ls.length : Int)) := by omega
    have HXt := HXB
    have HSL := Aside0.mk (Kd.R_mono (offT (offT HX.out.1 HXB.out (by decide)) HTr.out (by decide)) (ok' := fun q => q ≠ X ∧ q ≠ T) (fun q hq => ⟨hq.1.2, hq.2⟩))
    have HFt := Aside0.mk HX.out.2
    have HTt := HTr
    have HBt := HBr
    have HVt := HVr
    have HOl := Aside0.mk (fun q hq => ((Kd.R_bound HSL.out).1 q hq).2.2.1)
    have HIE := Aside0.mk (show SameL (inBase ls f) ls from HIB.out h6)
    have HI3 := Aside0.mk (show ls.length = 6 → joinB ls f (leastL6 ls : Nat) = true from fun h => absurd h h6)
    have hl6 : ls.length < 3518437208000 := HL7.out
    clear h6
    go_upto_region 14 with fail
    clear X0 X1
    have hXlt := blk_lt HXt.out
    have hTlt := blk_lt HTt.out
    have HXl := Aside0.mk (And.intro hXlt hTlt)
    clear hXlt hTlt
    have X0 : W5.drew.cell? ⟨X, 0, none⟩ = some (.slice A7 (ls.length) c7) := blk_cell HXt.out 0
    refine start_ (n := 9) (S := fun w' => w'.cell? ⟨X, 0, none⟩ = some (.slice A7 (ls.length) c7)) (ds := [8]) #[false, false, false, false, false, false, false, false, false] (by kernel_rfl) rfl rfl (X0) (fun hHeld => ?_)
    refine with_tabW tb_spec_SpineIn_14.tab tb_spec_SpineIn_14.bits (fun HT_ HW_ => ?_)
    refine pure_ (i := 0) (N := some 58) (v := ?_) (a' := ?_) #[true, false, false, false, false, false, false, false, false] rfl rfl (any_of HT_.out (by kernel_rfl)) (fun _ _ _ h => h) (Or.inl ⟨by rfl, ?_⟩) ?_ ?_
    rotate_left
    ·intro w'
     go_simp
     with_reducible rfl
    rotate_left
    ·simp only [Act.put, setIfInBounds_toArray, set_cons_zero, set_cons_succ, i64_w]
     rfl
    refine pure_ (i := 3) (N := some 61) (v := ?_) (a' := ?_) #[true, false, false, true, false, false, false, false, false] rfl rfl (any_of HT_.out (by kernel_rfl)) (fun _ _ _ h => h) (Or.inl ⟨by rfl, ?_⟩) ?_ ?_
    rotate_left
    ·intro w'
     go_simp
     with_reducible rfl
    rotate_left
    ·simp only [Act.put, setIfInBounds_toArray, set_cons_zero, set_cons_succ, i64_w]
     rfl
    refine take_ (i := 1) (N := some 59) (v := ?_) (a' := ?_) #[true, true, false, true, false, false, false, false, false] rfl rfl (take_ofW HT_.out HW_.out (by kernel_rfl)) (fun _ _ _ h => h) (Or.inl ⟨by rfl, ?_⟩) hHeld ?_ ?_
    rotate_left
    ·intro w' s0
     go_simp
     with_reducible rfl
    rotate_left
    ·simp only [Act.put, setIfInBounds_toArray, set_cons_zero, set_cons_succ, i64_w]
     rfl
    refine one_ (i := 2) (N := some 60) #[true, true, true, true, false, false, false, false, false] rfl rfl (one_of HT_.out (by kernel_rfl)) (by decide) (fun K hK => ?_)
    refine Kd.R_lit_step kRw _ 102 ?hg (N := 60) ?hd (xs := ([] : List Rw)) (inner := []) (ok := okT) (okp := fun _ => True) ?hr ?hp (fun _ hk => hk) trivial (Below.refl _ _) (Nat.le_refl _) (by simp) ?_; (case hd => rfl); (case hg => rfl); (case hr => first|(go_simp; done)|(go_simp; rfl)); (case hp => exact (Reps.none _ _))
    intro v1 w1 hr1 hb1 hg1 hn1_
    have HO1 := Aside0.mk hr1
    have hbw1 : Below W5.heap.size W5 w1 := bthen (below_drew (Below.refl _ _)) hb1
    clear hr1 hb1 hg1 hn1_
    refine hK.out _ _ (pw_cell_below hbw1 X0) (fun hHeld => ?_)
    clear hK K
    refine norm_ (a' := ?_) ?_ ?_
    rotate_left
    ·show Act.put _ (some 60) _ = _
     simp only [Act.put, setIfInBounds_toArray, set_cons_zero, set_cons_succ, i64_w]
     rfl
    refine one_ (i := 4) (N := some 62) #[true, true, true, true, true, false, false, false, false] rfl rfl (one_of HT_.out (by kernel_rfl)) (by decide) (fun K hK => ?_)
    refine stepRows (W := w1) (base := W5.heap.size) (xs := []) (ys := b) (A := A3) (c := c3) (ok := okT) rfl rfl rfl HO1.out (HVt.out.below hbw1) (fun _ _ => trivial) hbw1.size hl4 ?_
    intro v2 w2 hr2 hb2 hg2
    rw [List.nil_append] at hr2
    obtain ⟨A12, c12, e12⟩ := Kd.R_slice hr2
    subst e12
    have HO2 := Aside0.mk hr2
    have hbw2 : Below W5.heap.size W5 w2 := below_more hbw1 hb2
    clear hr2 hb2 hg2
    refine hK.out _ _ (pw_cell_below hbw2 X0) (fun hHeld => ?_)
    clear hK K
    refine norm_ (a' := ?_) ?_ ?_
    rotate_left
    ·show Act.put _ (some 62) _ = _
     simp only [Act.put, setIfInBounds_toArray, set_cons_zero, set_cons_succ, i64_w]
     rfl
    refine one_ (i := 5) (N := some 63) #[true, true, true, true, true, true, false, false, false] rfl rfl (one_of HT_.out (by kernel_rfl)) (by decide) (fun K hK => ?_)
    refine value_ (w1 := ?_) (v := ?_) (by rfl) rfl ?_ ?_
    rotate_left 2
    ·go_simp
     constructor
     ·rfl
     ·rfl
    refine hK.out _ _ (pw_cell_below (below_alloc hbw2 _) X0) (fun hHeld => ?_)
    clear hK K
    refine norm_ (a' := ?_) ?_ ?_
    rotate_left
    ·show Act.put _ (some 63) _ = _
     simp only [Act.put, setIfInBounds_toArray, set_cons_zero, set_cons_succ, i64_w]
     rfl
    refine one_ (i := 6) (N := some 64) #[true, true, true, true, true, true, true, false, false] rfl rfl (one_of HT_.out (by kernel_rfl)) (by decide) (fun K hK => ?_)
    refine stepLay1 (W := w2) (base := w.heap.size) (xs := ls) (y := b) (u := .slice A12 b.length c12) (ok := fun q => q ≠ X ∧ q ≠ T) (okp := fun q => W5.heap.size ≤ q) rfl rfl rfl (Kd.R_below HSL.out hbw2) (sh_M (Kd.R_lower (Kd.R_mono (Kd.R_bound HO2.out) (fun q hq => hq.2.1)) HBt.out.size)) (fun q hq => ⟨⟨Ne.symm (Nat.ne_of_lt (Nat.lt_of_lt_of_le HXl.out.1 hq)), Ne.symm (Nat.ne_of_lt (Nat.lt_of_lt_of_le HXl.out.2 hq))⟩, fun e => Nat.lt_irrefl _ (Nat.lt_of_lt_of_le (HOl.out q e.symm) hq)⟩) (fun q hq => ⟨Ne.symm (Nat.ne_of_lt (Nat.lt_of_lt_of_le HXl.out.1 (Nat.le_trans hbw2.size hq))), Ne.symm (Nat.ne_of_lt (Nat.lt_of_lt_of_le HXl.out.2 (Nat.le_trans hbw2.size hq)))⟩) (Nat.le_trans HBt.out.size hbw2.size) hl6 ?_
    intro v14 w3 hr3 hb3 hg3
    obtain ⟨A14, c14, e14⟩ := Kd.R_slice hr3
    obtain ⟨m14, hm14⟩ : ∃ m, m = (ls ++ [b]).length := ⟨_, rfl⟩
    rw [← hm14] at e14
    subst e14
    clear hm14
    have HL3 := Aside0.mk hr3
    have HX3 := Aside0.mk ((hg3.block X (Nat.lt_of_lt_of_le HXl.out.1 hbw2.size) (fun e => (HSL.out.1 X e.symm).1 rfl)).trans (blk_below HXt.out hbw2))
    have HT3 := Aside0.mk ((hg3.block T (Nat.lt_of_lt_of_le HXl.out.2 hbw2.size) (fun e => (HSL.out.1 T e.symm).2 rfl)).trans (blk_below HTt.out hbw2))
    have hg4 : w2.grownBy w3 (Value.slice A7 (ls.length) c7).ownBlock := hg3
    have HF3 := Aside0.mk (Kd.R_over (Kd.R_below HFt.out hbw2) (Kd.R_below HSL.out hbw2) (by decide) hg4)
    have HB3 := Aside0.mk (below_more (bthen HBt.out hbw2) hb3)
    have x0 := blk_cell HX3.out 0
    have xf0 := blk_frozen HX3.out 0
    clear hr3 hb3 hg3
    refine hK.out _ _ (x0) (fun hHeld => ?_)
    clear hK K
    refine norm_ (a' := ?_) ?_ ?_
    rotate_left
    ·show Act.put _ (some 64) _ = _
     simp only [Act.put, setIfInBounds_toArray, set_cons_zero, set_cons_succ, i64_w]
     rfl
    refine pure_ (i := 7) (N := some 65) (v := ?_) (a' := ?_) #[true, true, true, true, true, true, true, true, false] rfl rfl (any_of HT_.out (by kernel_rfl)) (fun _ _ _ h => h) (Or.inl ⟨by rfl, ?_⟩) ?_ ?_
    rotate_left
    ·intro w'
     go_simp
     with_reducible rfl
    rotate_left
    ·simp only [Act.put, setIfInBounds_toArray, set_cons_zero, set_cons_succ, i64_w]
     rfl
    refine last_ (i := 8) (N := none) #[true, true, true, true, true, true, true, true, true] rfl rfl (one_of HT_.out (by kernel_rfl)) (by decide) (fun K hK => ?_)
    refine skip_ (w1 := ?_) (by rfl) rfl ?_ ?_
    rotate_left
    ·go_simp
     rfl
    refine hK.out _ _ ?_
    clear hK K
    refine done_ (done_of HT_.out (by kernel_rfl)) ?_
    have hxz := blk_set HX3.out 0 (.slice A14 m14 c14)
    have hlz := Kd.R_far HL3.out (p := ⟨X, 0, none⟩) (fun k hk => hk.1) (.slice A14 m14 c14)
    have hfz := Kd.R_far (offT HF3.out HX3.out (by decide)) (p := ⟨X, 0, none⟩) (fun k hk => hk.2) (.slice A14 m14 c14)
    have htz := blk_far HT3.out (p := ⟨X, 0, none⟩) (Nat.ne_of_lt hX2) (.slice A14 m14 c14)
    have hbz := below_set (g := X) (j := 0) (v := .slice A14 m14 c14) HB3.out hwX
    obtain ⟨wz, hwz⟩ : ∃ wz, wz = w3.setCell ⟨X, 0, none⟩ (.slice A14 m14 c14) := ⟨_, rfl⟩
    rw [← hwz] at hxz hlz hfz htz hbz ⊢
    have x1 : wz.cell? ⟨X, 0, none⟩ = some (.slice A14 m14 c14) := blk_cell hxz 0
    have x2 : wz.cell? ⟨X, 1, none⟩ = some (.slice A8 f.length c8) := blk_cell hxz 1
    have HXZ := Aside0.mk hxz
    have HLZ := Aside0.mk hlz
    have HFZ := Aside0.mk hfz
    have HTZ := Aside0.mk htz
    have HBZ := Aside0.mk hbz
    clear hwz hxz hlz hfz htz hbz x0 xf0 hHeld HX3 HL3 HF3 HT3 HB3 X0
    by_cases hok2 : spineOk (ls ++ [b]) f = true
    ·have HJ := Aside0.mk (show inB ls f b = true from inB_iff.2 ⟨hso, hbo, HAll.out, HI3.out, by rw [show inBase ls f = ls from HIE.out]; exact spineOk_iff.1 hok2⟩)
     go_wp2_with (go_at_call 28; ((with_reducible refine (spec_SpineOk _ _ (ls ++ [b]) f _ (Sl.of_Sh HLZ.out) (Sl.of_R HFZ.out)).mono ?_); rintro e w' ⟨rfl, hbb⟩; rw [hok2]; replace HTZ := Aside0.mk (blk_below HTZ.out hbb); replace HLZ := Aside0.mk (Kd.R_below HLZ.out hbb); replace HFZ := Aside0.mk (Kd.R_below HFZ.out hbb); replace HBZ := Aside0.mk (bthen HBZ.out hbb); replace x1 := pw_cell_below hbb x1; replace x2 := pw_cell_below hbb x2; have z0 := blk_cell HTZ.out 0; have z1 := blk_cell HTZ.out 1; have zf0 := blk_frozen HTZ.out 0; have zf1 := blk_frozen HTZ.out 1; clear hbb))
     refine bodyPost_ret (results_ct rfl _ _ T 26 #[.slice A14 m14 c14, .slice A8 f.length c8] (0, 0) _ rfl (blk2 HTZ.out _ _) Try.underlying26 rfl (by kernel_rfl)) rfl ?_
     refine in_yes HJ.out ?_ (below_set (below_set HBZ.out hT2) hT2)
     rw [show inBase ls f = ls from HIE.out]
     exact ⟨Kd.R_mono (Kd.R_far (Kd.R_far HLZ.out (p := ⟨T, 0, none⟩) (fun k hk => hk.2) _) (p := ⟨T, 1, none⟩) (fun k hk => hk.2) _) (fun _ _ => trivial), Kd.R_mono (Kd.R_far (Kd.R_far (offT HFZ.out HTZ.out (by decide)) (p := ⟨T, 0, none⟩) (fun k hk => hk.2) _) (p := ⟨T, 1, none⟩) (fun k hk => hk.2) _) (fun _ _ => trivial)⟩
    ·have hok3 : spineOk (ls ++ [b]) f = false := by cases h : spineOk (ls ++ [b]) f; rfl; exact absurd h hok2
     have HJ := Aside0.mk (show inB ls f b = false from in_not (fun h => hok2 (by have := h.2.2.2.2; rw [show inBase ls f = ls from HIE.out] at this; exact spineOk_iff.2 this)))
     go_wp2_with (go_at_call 28; ((with_reducible refine (spec_SpineOk _ _ (ls ++ [b]) f _ (Sl.of_Sh HLZ.out) (Sl.of_R HFZ.out)).mono ?_); rintro e w' ⟨rfl, hbb⟩; rw [hok3]; replace HTZ := Aside0.mk (blk_below HTZ.out hbb); replace HBZ := Aside0.mk (bthen HBZ.out hbb); have z0 := blk_cell HTZ.out 0; have z1 := blk_cell HTZ.out 1; have zf0 := blk_frozen HTZ.out 0; have zf1 := blk_frozen HTZ.out 1; clear hbb))
     refine bodyPost_ret (results_ct rfl _ _ T 26 #[.slice none 0 0, .slice none 0 0] (0, 0) _ rfl (blk2 HTZ.out _ _) Try.underlying26 rfl (by kernel_rfl)) rfl ?_
     exact in_no HJ.out (below_set (below_set HBZ.out hT2) hT2)
end Go.Proofs.Ytkdendlgaaimbaa.X
