/- Conditions: none. -/
import Derived.Test.YtkdendlgaaimbaaYQPsS
import Derived.Test.YtkdendlgaaimbaaYQPnOk
import Derived.Test.YtkdendlgaaimbaaYQStB
import Derived.Test.YtkdendlgaaimbaaYQPsW
import Derived.RegionTactic
import Derived.BigRegion
namespace Go.Proofs.Ytkdendlgaaimbaa.X
open Go.RowKit Go.Proofs.YtkdendlgaaimbaaW.PrintWords Go.Proofs.YtkdendlgaaimbaaW.PrintLast
open List (setIfInBounds_toArray set_cons_zero set_cons_succ)
set_option linter.unusedVariables false
set_option linter.unusedSimpArgs false
def tb_spec_l21Set_15.T : Bool × List (List Nat × List Nat) := (true, [([], []), ([0], [0]), ([1], [1]), ([], []), ([3], [3]), ([2, 4], [2, 4]), ([5, 5, 0, 1, 2, 3, 4, 5], [5])])
def tb_spec_l21Set_15.B : List Nat := [0, 1, 3, 0, 8, 31, 63]
theorem tb_spec_l21Set_15.tab : rtab .any (opsOf Try.f104 15) = tb_spec_l21Set_15.T := by kernel_rfl
theorem tb_spec_l21Set_15.bits : waitsOk tb_spec_l21Set_15.T.2 tb_spec_l21Set_15.B = true := by kernel_rfl
def tb_spec_l21Set_17.T : Bool × List (List Nat × List Nat) := (true, [([], []), ([0], [0]), ([1], [1]), ([], []), ([3], [3]), ([4], [4]), ([2, 5], [2, 5]), ([6, 6, 0, 1, 2, 3, 4, 5, 6], [6])])
def tb_spec_l21Set_17.B : List Nat := [0, 1, 3, 0, 8, 24, 63, 127]
theorem tb_spec_l21Set_17.tab : rtab .any (opsOf Try.f104 17) = tb_spec_l21Set_17.T := by kernel_rfl
theorem tb_spec_l21Set_17.bits : waitsOk tb_spec_l21Set_17.T.2 tb_spec_l21Set_17.B = true := by kernel_rfl
def tb_spec_l21Set_21.T : Bool × List (List Nat × List Nat) := (true, [([], []), ([0], [0]), ([1], [1]), ([], []), ([3], [3]), ([4], [4]), ([2, 5], [2, 5]), ([6, 6, 0, 1, 2, 3, 4, 5, 6], [6])])
def tb_spec_l21Set_21.B : List Nat := [0, 1, 3, 0, 8, 24, 63, 127]
theorem tb_spec_l21Set_21.tab : rtab .any (opsOf Try.f104 21) = tb_spec_l21Set_21.T := by kernel_rfl
theorem tb_spec_l21Set_21.bits : waitsOk tb_spec_l21Set_21.T.2 tb_spec_l21Set_21.B = true := by kernel_rfl
def tb_spec_l21Set_11.T : Bool × List (List Nat × List Nat) := (true, [([], []), ([0], [0]), ([1], [1]), ([], []), ([3], [3]), ([2, 4], [2, 4]), ([5, 5, 0, 1, 2, 3, 4, 5], [5])])
def tb_spec_l21Set_11.B : List Nat := [0, 1, 3, 0, 8, 31, 63]
theorem tb_spec_l21Set_11.tab : rtab .any (opsOf Try.f104 11) = tb_spec_l21Set_11.T := by kernel_rfl
theorem tb_spec_l21Set_11.bits : waitsOk tb_spec_l21Set_11.T.2 tb_spec_l21Set_11.B = true := by kernel_rfl
set_option maxRecDepth 100000 in
set_option maxHeartbeats 4000000 in
theorem spec_planSet_d : ∀ (d : Nat) (a b : Int) (l : List Pn), pok d a b l = true → ∀ (v v2 : Value) (ins : List (List It)) (w : World), Sl kPn w v l → Sl (Kd.slice 118 kIt) w v2 ins → ins.length = 2 → (∀ s ∈ ins, setOk s = true) → Calls Try.prog 104 #[.agg #[.int .i64 a, .int .i64 b, v], v2] w (PlS w (setP ins ⟨a, b, l⟩)) := by
 intro d
 induction d with
 | zero => intro a b l h; simp [pok] at h
 | succ d ih =>
  intro a b l hp v v2 ins w h h2 hin hins
  have HI := Aside0.mk ih
  have HP := Aside0.mk hp
  have HINS := Aside0.mk hins
  have H6 := Aside0.mk (pok_six hp)
  have hl2 : l.length ≤ 2 := by have := pok_six hp; omega
  have HIN := Aside0.mk hin
  clear ih hp hins hin
  obtain ⟨A2, c2, rfl, hc2, hr2⟩ := h2
  have HS2 := Aside0.mk hr2
  have HV2 := Aside0.mk (show Sl (Kd.slice 118 kIt) w (.slice A2 ins.length c2) ins from ⟨A2, c2, rfl, hc2, hr2⟩)
  obtain ⟨A, c, rfl, hc, hr⟩ := h
  have HR := Aside0.mk hr
  clear hr hr2
  go_enter Try.func104, Try.ntmps104
  go_upto_region 1 with fail
  refine name_world fun W0 hW0 => ?_
  have hb0 : Below w.heap.size w W0 := hW0 ▸ below_alloc (Below.refl _ _) _
  have B0 : W0.cell? ⟨w.heap.size, 0, none⟩ = some (.int .i64 a) := by rw [hW0]; simp
  have B1 : W0.cell? ⟨w.heap.size, 1, none⟩ = some (.int .i64 b) := by rw [hW0]; simp
  have B2 : W0.cell? ⟨w.heap.size, 2, none⟩ = some (.slice A l.length c) := by rw [hW0]; simp
  clear hW0
  obtain ⟨K, hK⟩ : ∃ K, K = w.heap.size := ⟨_, rfl⟩
  rw [← hK] at B0 B1 B2 ⊢
  have HW := Aside0.mk hb0
  have HB := Aside0.mk (Below.refl W0.heap.size W0)
  clear hb0 hK
  have HN := Aside0.mk (R_none (d := kSi) (e := 46) (w := W0.alloc (.cells #[] 46)) (base := W0.heap.size) (ok := okT) (blk_new W0 _) (Nat.le_refl _) trivial)
  have HB1 := Aside0.mk (below_alloc HB.out (.cells #[] 46))
  go_wp2
  go_loopw [6, 7] (fun kv i wr => ∃ (k : Nat) (acc : List (List It)) (A9 : Option Addr) (c9 : Nat), k ≤ l.length ∧ kv = .slice A9 acc.length c9 ∧ i = .int .i64 k ∧ Aside0 (setL ins (l.take k) = some acc) ∧ Aside0 (kSi.R 46 wr W0.heap.size okT (.slice A9 acc.length c9) acc) ∧ Aside0 (Below W0.heap.size W0 wr)) (fun _ i _ => l.length - (intOf i).toNat)
  case atStart => exact ⟨0, [], _, _, Nat.zero_le _, rfl, rfl, ⟨by rw [List.take_zero, setL]⟩, HN, HB1⟩
  case round =>
   clear HB HB1 HN
   obtain ⟨k, acc, A9, c9, hk, rfl, rfl, HE, HO, HB⟩ := hrel
   have b2 := pw_cell_below HB.out B2
   by_cases hlt : k < l.length
   ·obtain ⟨ad, x, B, d2, e, HX, p0, p1, p2, HKx⟩ := rdPn HR.out (bthen HW.out HB.out) hlt
    cases e
    have HCx := Aside0.mk (fun v v2 w h h2 => HI.out x.f0 x.f1 x.f2 (pok_kids HP.out (List.mem_of_getElem? HX.out)) v v2 ins w h h2 HIN.out HINS.out)
    have hacc : acc.length < 3518437208000 := by have := setL_len ins _ _ HE.out; rw [this, List.length_take]; omega
    obtain ⟨y, hy⟩ : ∃ y, y = setP ins x := ⟨_, rfl⟩
    have ex : (⟨x.f0, x.f1, x.f2⟩ : Pn) = x := by cases x; rfl
    have HY := Aside0.mk hy
    have HC2 := Aside0.mk (fun v v2 w h h2 => by have := HCx.out v v2 w h h2; rw [ex, ← hy] at this; exact this)
    clear HCx hy ex
    cases y with
    | none =>
     go_upto_region 6 with (go_at_call 104; ((with_reducible refine (HC2.out _ _ _ HKx.out ((HV2.out.below HW.out).below HB.out)).mono ?_); rintro e w2 ⟨vk, rfl, hk2, hb2⟩; replace HB := Aside0.mk (bthen HB.out hb2); clear hk2 hb2))
     go_wp2
     go_ret2
     exact PlS.no (setP_no (setL_stop HX.out HY.out.symm)) (below_alloc (bthen HW.out HB.out) (.cells #[] 118))
    | some ys =>
     go_upto_region 6 with (go_at_call 104; ((with_reducible refine (HC2.out _ _ _ HKx.out ((HV2.out.below HW.out).below HB.out)).mono ?_); rintro e w2 ⟨vk, rfl, hk2, hb2⟩; have hk3 := hk2 ys rfl; obtain ⟨A7, c7, e7⟩ := Kd.R_slice hk3; subst e7; have HKR := Aside0.mk (si_M (Kd.R_lower (Kd.R_mono (Kd.R_bound hk3) (fun q hq => hq.2.1)) HB.out.size)); have HLT := Aside0.mk (Kd.R_bound HO.out).1; replace HO := Aside0.mk (Kd.R_below HO.out hb2); replace HB := Aside0.mk (bthen HB.out hb2); clear hk2 hk3 hb2))
     go_wp2_with (at_builtin; refine appSet (W := w2) (base := W0.heap.size) (xs := acc) (y := ys) (u := .slice A7 ys.length c7) (ok := okT) (okp := fun q => wr.heap.size ≤ q) rfl rfl rfl HO.out HKR.out (fun q hq => ⟨trivial, fun e => Nat.lt_irrefl _ (Nat.lt_of_lt_of_le (HLT.out q e.symm).2.2.1 hq)⟩) (fun _ _ => trivial) HB.out.size hacc ?_; intro v1 w3 hr1 hb1 hg1 ha1; obtain ⟨A8, c8, e8⟩ := Kd.R_slice hr1; subst e8; replace HO := Aside0.mk hr1; replace HB := Aside0.mk (below_more HB.out hb1); clear hr1 hb1 hg1 ha1)
     go_roundw
     case rel => exact ⟨k + 1, acc ++ [ys], A8, c8, by omega, by rw [List.length_append]; rfl, by go_num, ⟨setL_next HX.out HE.out HY.out.symm⟩, HO, HB⟩
     case measure => simp [intOf]; omega
   ·have ek : k = l.length := by omega
    subst ek
    rw [List.take_length] at HE
    have HEL := Aside0.mk (setL_len ins _ _ HE.out)
    have HQ := Aside0.mk (setP_yes (a := a) (b := b) HE.out)
    go_upto_region 10 with fail
    have hb9 := below_alloc (Below.refl wr.heap.size wr) (.cells #[] 118)
    have HN := Aside0.mk (R_none (d := kIt) (e := 118) (w := wr.alloc (.cells #[] 118)) (base := W0.heap.size) (ok := okT) (blk_new wr _) HB.out.size trivial)
    generalize hW9 : wr.alloc (.cells #[] 118) = W9 at hb9 HN ⊢
    clear hW9
    replace HB := Aside0.mk (bthen HB.out hb9)
    replace HO := Aside0.mk (Kd.R_below HO.out hb9)
    have b0 := pw_cell_below HB.out B0
    have b1 := pw_cell_below HB.out B1
    clear hb9 b2
    have hal := HEL.out
    rcases H6.out with ⟨rfl, hl, h0, h1⟩ | ⟨rfl, hl, h0, h1⟩ | ⟨rfl, hl⟩ | ⟨rfl, hl⟩ | ⟨rfl, hl⟩ | ⟨rfl, hl, h0, h1⟩
    ·obtain ⟨j, rfl⟩ : ∃ j : Nat, b = (j : Int) := ⟨b.toNat, by omega⟩
     have hj : (j : Int) < ins.length := by have := HIN.out; omega
     obtain ⟨ad2, B3, c3, e3, i0, S0⟩ := rdSet (Kd.C_below HS2.out (bthen HW.out HB.out)) (k := j) (by omega)
     cases e3
     have HS0 := Aside0.mk S0
     have HE5 := Aside0.mk (show outP 1 (j : Int) acc ins = litm ins j from rfl)
     have hsz : Aside0 ((litm ins j).length ≤ 400) := ⟨by
      have hm : litm ins j ∈ ins := by unfold litm; rw [List.getD_eq_getElem?_getD, List.getElem?_eq_getElem (by omega)]; exact List.getElem_mem _
      exact (mass_setOk (HINS.out _ hm)).2⟩
     clear S0
     generalize litm ins j = s0 at *
     go_wp2_with (first
      | (at_builtin; refine appsIt (w0 := W0) (base := W0.heap.size) (xs := []) (ys := s0) (ok := okT) rfl rfl HS0.out HN.out (fun _ _ => trivial) HB.out HB.out.size (by have := hsz.out; simp; omega) ?_; intro v1 w1 hr1 hb1 hg1 ha1; rw [List.nil_append] at hr1; have HF := Aside0.mk hr1; replace HB := Aside0.mk hb1; clear hr1 hb1 hg1 ha1)
      | (go_at_call 103; ((with_reducible refine (spec_SetOk _ s0 _ (Sl.of_R HF.out)).mono ?_); rintro e w' ⟨rfl, hb⟩; replace HB := Aside0.mk (bthen HB.out hb); replace HF := Aside0.mk (Kd.R_below HF.out hb); clear hb)))
     go_ret2
     exact PlS.base (PlS.keep (HQ.out.trans (congrArg keepP HE5.out)) HF.out HB.out) HW.out
    ·obtain ⟨A5, c5, e5, _, hC5⟩ := Sl.of_Si HO.out
     cases e5
     obtain ⟨ad5, B5, d5, e5, k0, S5⟩ := rdSet hC5 (k := 0) (by omega)
     cases e5
     rw [show ad5.add 0 = ad5 from rfl] at k0
     have HS5 := Aside0.mk S5
     have HE5 := Aside0.mk (show outP 2 b acc ins = setEach (litm acc 0) b from rfl)
     clear hC5 S5
     generalize litm acc 0 = s0 at *
     go_upto_region 15 with fail
     replace k0 : W9.drew.cell? ad5 = some (.slice B5 s0.length d5) := k0
     replace b1 : W9.drew.cell? ⟨K, 1, none⟩ = some (.int .i64 b) := b1
     refine start_ (n := 7) (S := fun w' => w'.cell? ad5 = some (.slice B5 s0.length d5) ∧ w'.cell? ⟨K, 1, none⟩ = some (.int .i64 b)) (ds := []) #[false, false, false, false, false, false, false] (by kernel_rfl) rfl rfl ⟨k0, b1⟩ (fun hHeld => ?_)
     refine with_tabW tb_spec_l21Set_15.tab tb_spec_l21Set_15.bits (fun HT_ HW_ => ?_)
     refine pure_ (i := 0) (N := some 56) (v := ?_) (a' := ?_) #[true, false, false, false, false, false, false] rfl rfl (any_of HT_.out (by kernel_rfl)) (fun _ _ _ h => h) (Or.inl ⟨by rfl, ?_⟩) ?_ ?_
     rotate_left; (intro w'; go_simp; with_reducible rfl); rotate_left; (simp only [Act.put, setIfInBounds_toArray, set_cons_zero, set_cons_succ, i64_w]; rfl)
     refine pure_ (i := 1) (N := some 57) (v := ?_) (a' := ?_) #[true, true, false, false, false, false, false] rfl rfl (any_of HT_.out (by kernel_rfl)) (fun _ _ _ h => h) (Or.inl ⟨by rfl, ?_⟩) ?_ ?_
     rotate_left; (intro w'; go_simp; with_reducible rfl); rotate_left; (simp only [Act.put, setIfInBounds_toArray, set_cons_zero, set_cons_succ, i64_w]; rfl)
     refine pure_ (i := 3) (N := some 59) (v := ?_) (a' := ?_) #[true, true, false, true, false, false, false] rfl rfl (any_of HT_.out (by kernel_rfl)) (fun _ _ _ h => h) (Or.inl ⟨by rfl, ?_⟩) ?_ ?_
     rotate_left; (intro w'; go_simp; with_reducible rfl); rotate_left; (simp only [Act.put, setIfInBounds_toArray, set_cons_zero, set_cons_succ, i64_w]; rfl)
     refine take_ (i := 2) (N := some 58) (v := ?_) (a' := ?_) #[true, true, true, true, false, false, false] rfl rfl (take_ofW HT_.out HW_.out (by kernel_rfl)) (fun _ _ _ h => h) (Or.inl ⟨by rfl, ?_⟩) hHeld ?_ ?_
     rotate_left; (rintro w' ⟨s0, s1⟩; go_simp; with_reducible rfl); rotate_left; (simp only [Act.put, setIfInBounds_toArray, set_cons_zero, set_cons_succ, i64_w]; rfl)
     refine take_ (i := 4) (N := some 60) (v := ?_) (a' := ?_) #[true, true, true, true, true, false, false] rfl rfl (take_ofW HT_.out HW_.out (by kernel_rfl)) (fun _ _ _ h => h) (Or.inl ⟨by rfl, ?_⟩) hHeld ?_ ?_
     rotate_left; (rintro w' ⟨s0, s1⟩; go_simp; with_reducible rfl); rotate_left; (simp only [Act.put, setIfInBounds_toArray, set_cons_zero, set_cons_succ, i64_w]; rfl)
     refine one_ (i := 5) (N := some 61) #[true, true, true, true, true, true, false] rfl rfl (one_of HT_.out (by kernel_rfl)) (by decide) (fun K hK => ?_)
     refine goes_ Try.func149 (by kernel_rfl) rfl #[.slice B5 s0.length d5, .int .i64 b] (by rfl) rfl rfl (by simp only [List.map_toArray, List.map_cons, List.map_nil]; rfl) ?_
     with_reducible refine (spec_SetEach _ s0 b _ (HS5.out.below (below_drew (Below.refl _ _)))).mono ?_
     rintro e w6 ⟨u, rfl, hr6, hb0⟩
     refine ⟨_, rfl, ?_⟩
     have hb6 := bthen (below_drew (Below.refl W9.heap.size W9)) hb0
     have HF := Aside0.mk (Kd.R_lower hr6 (show W0.heap.size ≤ W9.drew.heap.size from HB.out.size))
     replace HB := Aside0.mk (bthen HB.out hb6)
     clear hr6 hb6
     refine hK.out _ _ ⟨pw_cell_below hb0 k0, pw_cell_below hb0 b1⟩ (fun hHeld => ?_)
     clear hK K
     refine norm_ (a' := ?_) ?_ ?_
     rotate_left
     ·show Act.put _ (some 61) _ = _
      simp only [Act.put, setIfInBounds_toArray, set_cons_zero, set_cons_succ, i64_w]
      rfl
     refine pure_ (i := 6) (N := some 10) (v := ?_) (a' := ?_) #[true, true, true, true, true, true, true] rfl rfl (any_of HT_.out (by kernel_rfl)) (fun _ _ _ h => h) (Or.inl ⟨by rfl, ?_⟩) ?_ ?_
     rotate_left; (intro w'; go_simp; with_reducible rfl); rotate_left; (simp only [Act.put, setIfInBounds_toArray, set_cons_zero, set_cons_succ, i64_w]; rfl)
     refine done_ (done_of HT_.out (by kernel_rfl)) ?_
     clear hHeld HT_ HW_ hb0 k0 b1
     go_wp2_with (go_at_call 103; ((with_reducible refine (spec_SetOk _ (setEach s0 b) _ (Sl.of_R HF.out)).mono ?_); rintro e w' ⟨rfl, hb⟩; replace HB := Aside0.mk (bthen HB.out hb); replace HF := Aside0.mk (Kd.R_below HF.out hb); clear hb))
     go_ret2
     exact PlS.base (PlS.keep (HQ.out.trans (congrArg keepP HE5.out)) HF.out HB.out) HW.out
    ·obtain ⟨A5, c5, e5, _, hC5⟩ := Sl.of_Si HO.out
     cases e5
     obtain ⟨ad5, B5, d5, e5, k0, S5⟩ := rdSet hC5 (k := 0) (by omega)
     cases e5
     rw [show ad5.add 0 = ad5 from rfl] at k0
     obtain ⟨ad6, B6, d6, e5, k1, S6⟩ := rdSet hC5 (k := 1) (by omega)
     cases e5
     rw [show ad5.add 1 = ⟨ad5.block, ad5.off + 1, none⟩ from rfl] at k1
     have HS5 := Aside0.mk S5
     have HS6 := Aside0.mk S6
     have HE5 := Aside0.mk (show outP 3 b acc ins = setBoth (litm acc 0) (litm acc 1) from rfl)
     clear hC5 S5 S6
     generalize litm acc 0 = s0 at *
     generalize litm acc 1 = s1 at *
     go_upto_region 17 with fail
     replace k0 : W9.drew.cell? ad5 = some (.slice B5 s0.length d5) := k0
     replace k1 : W9.drew.cell? ⟨ad5.block, ad5.off + 1, none⟩ = some (.slice B6 s1.length d6) := k1
     refine start_ (n := 8) (S := fun w' => w'.cell? ad5 = some (.slice B5 s0.length d5) ∧ w'.cell? ⟨ad5.block, ad5.off + 1, none⟩ = some (.slice B6 s1.length d6)) (ds := []) #[false, false, false, false, false, false, false, false] (by kernel_rfl) rfl rfl ⟨k0, k1⟩ (fun hHeld => ?_)
     refine with_tabW tb_spec_l21Set_17.tab tb_spec_l21Set_17.bits (fun HT_ HW_ => ?_)
     refine pure_ (i := 0) (N := some 64) (v := ?_) (a' := ?_) #[true, false, false, false, false, false, false, false] rfl rfl (any_of HT_.out (by kernel_rfl)) (fun _ _ _ h => h) (Or.inl ⟨by rfl, ?_⟩) ?_ ?_
     rotate_left; (intro w'; go_simp; with_reducible rfl); rotate_left; (simp only [Act.put, setIfInBounds_toArray, set_cons_zero, set_cons_succ, i64_w]; rfl)
     refine pure_ (i := 1) (N := some 65) (v := ?_) (a' := ?_) #[true, true, false, false, false, false, false, false] rfl rfl (any_of HT_.out (by kernel_rfl)) (fun _ _ _ h => h) (Or.inl ⟨by rfl, ?_⟩) ?_ ?_
     rotate_left; (intro w'; go_simp; with_reducible rfl); rotate_left; (simp only [Act.put, setIfInBounds_toArray, set_cons_zero, set_cons_succ, i64_w]; rfl)
     refine pure_ (i := 3) (N := some 67) (v := ?_) (a' := ?_) #[true, true, false, true, false, false, false, false] rfl rfl (any_of HT_.out (by kernel_rfl)) (fun _ _ _ h => h) (Or.inl ⟨by rfl, ?_⟩) ?_ ?_
     rotate_left; (intro w'; go_simp; with_reducible rfl); rotate_left; (simp only [Act.put, setIfInBounds_toArray, set_cons_zero, set_cons_succ, i64_w]; rfl)
     refine pure_ (i := 4) (N := some 68) (v := ?_) (a' := ?_) #[true, true, false, true, true, false, false, false] rfl rfl (any_of HT_.out (by kernel_rfl)) (fun _ _ _ h => h) (Or.inl ⟨by rfl, ?_⟩) ?_ ?_
     rotate_left; (intro w'; go_simp; with_reducible rfl); rotate_left; (simp only [Act.put, setIfInBounds_toArray, set_cons_zero, set_cons_succ, i64_w]; rfl)
     refine take_ (i := 2) (N := some 66) (v := ?_) (a' := ?_) #[true, true, true, true, true, false, false, false] rfl rfl (take_ofW HT_.out HW_.out (by kernel_rfl)) (fun _ _ _ h => h) (Or.inl ⟨by rfl, ?_⟩) hHeld ?_ ?_
     rotate_left; (rintro w' ⟨s0, s1⟩; go_simp; with_reducible rfl); rotate_left; (simp only [Act.put, setIfInBounds_toArray, set_cons_zero, set_cons_succ, i64_w]; rfl)
     refine take_ (i := 5) (N := some 69) (v := ?_) (a' := ?_) #[true, true, true, true, true, true, false, false] rfl rfl (take_ofW HT_.out HW_.out (by kernel_rfl)) (fun _ _ _ h => h) (Or.inl ⟨by rfl, ?_⟩) hHeld ?_ ?_
     rotate_left; (rintro w' ⟨s0, s1⟩; go_simp; with_reducible rfl); rotate_left; (simp only [Act.put, setIfInBounds_toArray, set_cons_zero, set_cons_succ, i64_w]; rfl)
     refine one_ (i := 6) (N := some 70) #[true, true, true, true, true, true, true, false] rfl rfl (one_of HT_.out (by kernel_rfl)) (by decide) (fun K hK => ?_)
     refine goes_ Try.func150 (by kernel_rfl) rfl #[.slice B5 s0.length d5, .slice B6 s1.length d6] (by rfl) rfl rfl (by simp only [List.map_toArray, List.map_cons, List.map_nil]; rfl) ?_
     with_reducible refine (spec_SetBoth _ _ s0 s1 _ (HS5.out.below (below_drew (Below.refl _ _))) (HS6.out.below (below_drew (Below.refl _ _)))).mono ?_
     rintro e w6 ⟨u, rfl, hr6, hb0⟩
     refine ⟨_, rfl, ?_⟩
     have hb6 := bthen (below_drew (Below.refl W9.heap.size W9)) hb0
     have HF := Aside0.mk (Kd.R_lower hr6 (show W0.heap.size ≤ W9.drew.heap.size from HB.out.size))
     replace HB := Aside0.mk (bthen HB.out hb6)
     clear hr6 hb6
     refine hK.out _ _ ⟨pw_cell_below hb0 k0, pw_cell_below hb0 k1⟩ (fun hHeld => ?_)
     clear hK K
     refine norm_ (a' := ?_) ?_ ?_
     rotate_left
     ·show Act.put _ (some 70) _ = _
      simp only [Act.put, setIfInBounds_toArray, set_cons_zero, set_cons_succ, i64_w]
      rfl
     refine pure_ (i := 7) (N := some 10) (v := ?_) (a' := ?_) #[true, true, true, true, true, true, true, true] rfl rfl (any_of HT_.out (by kernel_rfl)) (fun _ _ _ h => h) (Or.inl ⟨by rfl, ?_⟩) ?_ ?_
     rotate_left; (intro w'; go_simp; with_reducible rfl); rotate_left; (simp only [Act.put, setIfInBounds_toArray, set_cons_zero, set_cons_succ, i64_w]; rfl)
     refine done_ (done_of HT_.out (by kernel_rfl)) ?_
     clear hHeld HT_ HW_ hb0 k0 k1
     go_wp2_with (go_at_call 103; ((with_reducible refine (spec_SetOk _ (setBoth s0 s1) _ (Sl.of_R HF.out)).mono ?_); rintro e w' ⟨rfl, hb⟩; replace HB := Aside0.mk (bthen HB.out hb); replace HF := Aside0.mk (Kd.R_below HF.out hb); clear hb))
     go_ret2
     exact PlS.base (PlS.keep (HQ.out.trans (congrArg keepP HE5.out)) HF.out HB.out) HW.out
    ·obtain ⟨A5, c5, e5, _, hC5⟩ := Sl.of_Si HO.out
     cases e5
     obtain ⟨ad5, B5, d5, e5, k0, S5⟩ := rdSet hC5 (k := 0) (by omega)
     cases e5
     rw [show ad5.add 0 = ad5 from rfl] at k0
     have HS5 := Aside0.mk S5
     have HE5 := Aside0.mk (show outP 4 b acc ins = setLess (litm acc 0) from rfl)
     clear hC5 S5
     generalize litm acc 0 = s0 at *
     go_wp2_with (first
      | (go_at_call 151; ((with_reducible refine (spec_SetLess _ s0 _ HS5.out).mono ?_); rintro e w6 ⟨u, rfl, hr6, hb0⟩; have HF := Aside0.mk (Kd.R_lower hr6 HB.out.size); replace HB := Aside0.mk (bthen HB.out hb0); clear hr6 hb0))
      | (go_at_call 103; ((with_reducible refine (spec_SetOk _ (setLess s0) _ (Sl.of_R HF.out)).mono ?_); rintro e w' ⟨rfl, hb⟩; replace HB := Aside0.mk (bthen HB.out hb); replace HF := Aside0.mk (Kd.R_below HF.out hb); clear hb)))
     go_ret2
     exact PlS.base (PlS.keep (HQ.out.trans (congrArg keepP HE5.out)) HF.out HB.out) HW.out
    ·obtain ⟨A5, c5, e5, _, hC5⟩ := Sl.of_Si HO.out
     cases e5
     obtain ⟨ad5, B5, d5, e5, k0, S5⟩ := rdSet hC5 (k := 0) (by omega)
     cases e5
     rw [show ad5.add 0 = ad5 from rfl] at k0
     obtain ⟨ad6, B6, d6, e5, k1, S6⟩ := rdSet hC5 (k := 1) (by omega)
     cases e5
     rw [show ad5.add 1 = ⟨ad5.block, ad5.off + 1, none⟩ from rfl] at k1
     have HS5 := Aside0.mk S5
     have HS6 := Aside0.mk S6
     have HE5 := Aside0.mk (show outP 5 b acc ins = setJoin (litm acc 0) (litm acc 1) from rfl)
     clear hC5 S5 S6
     generalize litm acc 0 = s0 at *
     generalize litm acc 1 = s1 at *
     go_upto_region 21 with fail
     replace k0 : W9.drew.cell? ad5 = some (.slice B5 s0.length d5) := k0
     replace k1 : W9.drew.cell? ⟨ad5.block, ad5.off + 1, none⟩ = some (.slice B6 s1.length d6) := k1
     refine start_ (n := 8) (S := fun w' => w'.cell? ad5 = some (.slice B5 s0.length d5) ∧ w'.cell? ⟨ad5.block, ad5.off + 1, none⟩ = some (.slice B6 s1.length d6)) (ds := []) #[false, false, false, false, false, false, false, false] (by kernel_rfl) rfl rfl ⟨k0, k1⟩ (fun hHeld => ?_)
     refine with_tabW tb_spec_l21Set_21.tab tb_spec_l21Set_21.bits (fun HT_ HW_ => ?_)
     refine pure_ (i := 0) (N := some 79) (v := ?_) (a' := ?_) #[true, false, false, false, false, false, false, false] rfl rfl (any_of HT_.out (by kernel_rfl)) (fun _ _ _ h => h) (Or.inl ⟨by rfl, ?_⟩) ?_ ?_
     rotate_left; (intro w'; go_simp; with_reducible rfl); rotate_left; (simp only [Act.put, setIfInBounds_toArray, set_cons_zero, set_cons_succ, i64_w]; rfl)
     refine pure_ (i := 1) (N := some 80) (v := ?_) (a' := ?_) #[true, true, false, false, false, false, false, false] rfl rfl (any_of HT_.out (by kernel_rfl)) (fun _ _ _ h => h) (Or.inl ⟨by rfl, ?_⟩) ?_ ?_
     rotate_left; (intro w'; go_simp; with_reducible rfl); rotate_left; (simp only [Act.put, setIfInBounds_toArray, set_cons_zero, set_cons_succ, i64_w]; rfl)
     refine pure_ (i := 3) (N := some 82) (v := ?_) (a' := ?_) #[true, true, false, true, false, false, false, false] rfl rfl (any_of HT_.out (by kernel_rfl)) (fun _ _ _ h => h) (Or.inl ⟨by rfl, ?_⟩) ?_ ?_
     rotate_left; (intro w'; go_simp; with_reducible rfl); rotate_left; (simp only [Act.put, setIfInBounds_toArray, set_cons_zero, set_cons_succ, i64_w]; rfl)
     refine pure_ (i := 4) (N := some 83) (v := ?_) (a' := ?_) #[true, true, false, true, true, false, false, false] rfl rfl (any_of HT_.out (by kernel_rfl)) (fun _ _ _ h => h) (Or.inl ⟨by rfl, ?_⟩) ?_ ?_
     rotate_left; (intro w'; go_simp; with_reducible rfl); rotate_left; (simp only [Act.put, setIfInBounds_toArray, set_cons_zero, set_cons_succ, i64_w]; rfl)
     refine take_ (i := 2) (N := some 81) (v := ?_) (a' := ?_) #[true, true, true, true, true, false, false, false] rfl rfl (take_ofW HT_.out HW_.out (by kernel_rfl)) (fun _ _ _ h => h) (Or.inl ⟨by rfl, ?_⟩) hHeld ?_ ?_
     rotate_left; (rintro w' ⟨s0, s1⟩; go_simp; with_reducible rfl); rotate_left; (simp only [Act.put, setIfInBounds_toArray, set_cons_zero, set_cons_succ, i64_w]; rfl)
     refine take_ (i := 5) (N := some 84) (v := ?_) (a' := ?_) #[true, true, true, true, true, true, false, false] rfl rfl (take_ofW HT_.out HW_.out (by kernel_rfl)) (fun _ _ _ h => h) (Or.inl ⟨by rfl, ?_⟩) hHeld ?_ ?_
     rotate_left; (rintro w' ⟨s0, s1⟩; go_simp; with_reducible rfl); rotate_left; (simp only [Act.put, setIfInBounds_toArray, set_cons_zero, set_cons_succ, i64_w]; rfl)
     refine one_ (i := 6) (N := some 85) #[true, true, true, true, true, true, true, false] rfl rfl (one_of HT_.out (by kernel_rfl)) (by decide) (fun K hK => ?_)
     refine goes_ Try.func152 (by kernel_rfl) rfl #[.slice B5 s0.length d5, .slice B6 s1.length d6] (by rfl) rfl rfl (by simp only [List.map_toArray, List.map_cons, List.map_nil]; rfl) ?_
     with_reducible refine (spec_SetJoin _ _ s0 s1 _ (HS5.out.below (below_drew (Below.refl _ _))) (HS6.out.below (below_drew (Below.refl _ _)))).mono ?_
     rintro e w6 ⟨u, rfl, hr6, hb0⟩
     refine ⟨_, rfl, ?_⟩
     have hb6 := bthen (below_drew (Below.refl W9.heap.size W9)) hb0
     have HF := Aside0.mk (Kd.R_lower hr6 (show W0.heap.size ≤ W9.drew.heap.size from HB.out.size))
     replace HB := Aside0.mk (bthen HB.out hb6)
     clear hr6 hb6
     refine hK.out _ _ ⟨pw_cell_below hb0 k0, pw_cell_below hb0 k1⟩ (fun hHeld => ?_)
     clear hK K
     refine norm_ (a' := ?_) ?_ ?_
     rotate_left
     ·show Act.put _ (some 85) _ = _
      simp only [Act.put, setIfInBounds_toArray, set_cons_zero, set_cons_succ, i64_w]
      rfl
     refine pure_ (i := 7) (N := some 10) (v := ?_) (a' := ?_) #[true, true, true, true, true, true, true, true] rfl rfl (any_of HT_.out (by kernel_rfl)) (fun _ _ _ h => h) (Or.inl ⟨by rfl, ?_⟩) ?_ ?_
     rotate_left; (intro w'; go_simp; with_reducible rfl); rotate_left; (simp only [Act.put, setIfInBounds_toArray, set_cons_zero, set_cons_succ, i64_w]; rfl)
     refine done_ (done_of HT_.out (by kernel_rfl)) ?_
     clear hHeld HT_ HW_ hb0 k0 k1
     go_wp2_with (go_at_call 103; ((with_reducible refine (spec_SetOk _ (setJoin s0 s1) _ (Sl.of_R HF.out)).mono ?_); rintro e w' ⟨rfl, hb⟩; replace HB := Aside0.mk (bthen HB.out hb); replace HF := Aside0.mk (Kd.R_below HF.out hb); clear hb))
     go_ret2
     exact PlS.base (PlS.keep (HQ.out.trans (congrArg keepP HE5.out)) HF.out HB.out) HW.out
    ·obtain ⟨A5, c5, e5, _, hC5⟩ := Sl.of_Si HO.out
     cases e5
     obtain ⟨ad5, B5, d5, e5, k0, S5⟩ := rdSet hC5 (k := 0) (by omega)
     cases e5
     rw [show ad5.add 0 = ad5 from rfl] at k0
     have HS5 := Aside0.mk S5
     have HE5 := Aside0.mk (show outP 6 b acc ins = sumK (litm acc 0) b from rfl)
     clear hC5 S5
     generalize litm acc 0 = s0 at *
     go_upto_region 11 with fail
     replace k0 : W9.drew.cell? ad5 = some (.slice B5 s0.length d5) := k0
     replace b1 : W9.drew.cell? ⟨K, 1, none⟩ = some (.int .i64 b) := b1
     refine start_ (n := 7) (S := fun w' => w'.cell? ad5 = some (.slice B5 s0.length d5) ∧ w'.cell? ⟨K, 1, none⟩ = some (.int .i64 b)) (ds := []) #[false, false, false, false, false, false, false] (by kernel_rfl) rfl rfl ⟨k0, b1⟩ (fun hHeld => ?_)
     refine with_tabW tb_spec_l21Set_11.tab tb_spec_l21Set_11.bits (fun HT_ HW_ => ?_)
     refine pure_ (i := 0) (N := some 39) (v := ?_) (a' := ?_) #[true, false, false, false, false, false, false] rfl rfl (any_of HT_.out (by kernel_rfl)) (fun _ _ _ h => h) (Or.inl ⟨by rfl, ?_⟩) ?_ ?_
     rotate_left; (intro w'; go_simp; with_reducible rfl); rotate_left; (simp only [Act.put, setIfInBounds_toArray, set_cons_zero, set_cons_succ, i64_w]; rfl)
     refine pure_ (i := 1) (N := some 40) (v := ?_) (a' := ?_) #[true, true, false, false, false, false, false] rfl rfl (any_of HT_.out (by kernel_rfl)) (fun _ _ _ h => h) (Or.inl ⟨by rfl, ?_⟩) ?_ ?_
     rotate_left; (intro w'; go_simp; with_reducible rfl); rotate_left; (simp only [Act.put, setIfInBounds_toArray, set_cons_zero, set_cons_succ, i64_w]; rfl)
     refine pure_ (i := 3) (N := some 42) (v := ?_) (a' := ?_) #[true, true, false, true, false, false, false] rfl rfl (any_of HT_.out (by kernel_rfl)) (fun _ _ _ h => h) (Or.inl ⟨by rfl, ?_⟩) ?_ ?_
     rotate_left; (intro w'; go_simp; with_reducible rfl); rotate_left; (simp only [Act.put, setIfInBounds_toArray, set_cons_zero, set_cons_succ, i64_w]; rfl)
     refine take_ (i := 2) (N := some 41) (v := ?_) (a' := ?_) #[true, true, true, true, false, false, false] rfl rfl (take_ofW HT_.out HW_.out (by kernel_rfl)) (fun _ _ _ h => h) (Or.inl ⟨by rfl, ?_⟩) hHeld ?_ ?_
     rotate_left; (rintro w' ⟨s0, s1⟩; go_simp; with_reducible rfl); rotate_left; (simp only [Act.put, setIfInBounds_toArray, set_cons_zero, set_cons_succ, i64_w]; rfl)
     refine take_ (i := 4) (N := some 43) (v := ?_) (a' := ?_) #[true, true, true, true, true, false, false] rfl rfl (take_ofW HT_.out HW_.out (by kernel_rfl)) (fun _ _ _ h => h) (Or.inl ⟨by rfl, ?_⟩) hHeld ?_ ?_
     rotate_left; (rintro w' ⟨s0, s1⟩; go_simp; with_reducible rfl); rotate_left; (simp only [Act.put, setIfInBounds_toArray, set_cons_zero, set_cons_succ, i64_w]; rfl)
     refine one_ (i := 5) (N := some 44) #[true, true, true, true, true, true, false] rfl rfl (one_of HT_.out (by kernel_rfl)) (by decide) (fun K hK => ?_)
     refine goes_ Try.func153 (by kernel_rfl) rfl #[.slice B5 s0.length d5, .int .i64 b] (by rfl) rfl rfl (by simp only [List.map_toArray, List.map_cons, List.map_nil]; rfl) ?_
     with_reducible refine (spec_l3Sum _ s0 b _ (HS5.out.below (below_drew (Below.refl _ _))) h0 h1).mono ?_
     rintro e w6 ⟨u, rfl, hr6, hb0⟩
     refine ⟨_, rfl, ?_⟩
     have hb6 := bthen (below_drew (Below.refl W9.heap.size W9)) hb0
     have HF := Aside0.mk (Kd.R_lower hr6 (show W0.heap.size ≤ W9.drew.heap.size from HB.out.size))
     replace HB := Aside0.mk (bthen HB.out hb6)
     clear hr6 hb6
     refine hK.out _ _ ⟨pw_cell_below hb0 k0, pw_cell_below hb0 b1⟩ (fun hHeld => ?_)
     clear hK K
     refine norm_ (a' := ?_) ?_ ?_
     rotate_left
     ·show Act.put _ (some 44) _ = _
      simp only [Act.put, setIfInBounds_toArray, set_cons_zero, set_cons_succ, i64_w]
      rfl
     refine pure_ (i := 6) (N := some 10) (v := ?_) (a' := ?_) #[true, true, true, true, true, true, true] rfl rfl (any_of HT_.out (by kernel_rfl)) (fun _ _ _ h => h) (Or.inl ⟨by rfl, ?_⟩) ?_ ?_
     rotate_left; (intro w'; go_simp; with_reducible rfl); rotate_left; (simp only [Act.put, setIfInBounds_toArray, set_cons_zero, set_cons_succ, i64_w]; rfl)
     refine done_ (done_of HT_.out (by kernel_rfl)) ?_
     clear hHeld HT_ HW_ hb0 k0 b1
     go_wp2_with (go_at_call 103; ((with_reducible refine (spec_SetOk _ (sumK s0 b) _ (Sl.of_R HF.out)).mono ?_); rintro e w' ⟨rfl, hb⟩; replace HB := Aside0.mk (bthen HB.out hb); replace HF := Aside0.mk (Kd.R_below HF.out hb); clear hb))
     go_ret2
     exact PlS.base (PlS.keep (HQ.out.trans (congrArg keepP HE5.out)) HF.out HB.out) HW.out
end Go.Proofs.Ytkdendlgaaimbaa.X
