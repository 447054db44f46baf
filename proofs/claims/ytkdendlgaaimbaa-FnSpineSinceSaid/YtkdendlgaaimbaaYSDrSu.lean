/- Conditions: none. -/
import Derived.Test.YtkdendlgaaimbaaYSDrSr
import Derived.RegionTactic
import Derived.BigRegion
namespace Go.Proofs.Ytkdendlgaaimbaa.X
open Go.RowKit Go.Proofs.YtkdendlgaaimbaaW.PrintWords Go.Proofs.YtkdendlgaaimbaaW.PrintLast
open List (setIfInBounds_toArray set_cons_zero set_cons_succ)
set_option linter.unusedVariables false
set_option linter.unusedSimpArgs false
def FrP (w : World) (e : Ending) (w' : World) : Prop := ∃ (u : Value) (xs : List Tm), e = .returned u ∧ kTm.R 43 w' w.heap.size okT u xs ∧ xs.length ≤ 64 ∧ Below w.heap.size w w'
def tb_spec_FrontBoth_10.T : Bool × List (List Nat × List Nat) := (true, [([], []), ([], []), ([], []), ([1, 2], [1, 2]), ([3], [3]), ([], []), ([], []), ([5, 6], [5, 6]), ([7], [7]), ([4, 8], [4, 8]), ([9], [9]), ([0, 10, 9], [0, 10]), ([11, 11, 0, 1, 2, 3, 4, 5, 6, 7, 8, 9, 10, 11], [0, 11])])
def tb_spec_FrontBoth_10.B : List Nat := [0, 0, 0, 6, 14, 0, 0, 96, 224, 510, 1022, 2047, 4095]
theorem tb_spec_FrontBoth_10.tab : rtab .any (opsOf Try.f86 10) = tb_spec_FrontBoth_10.T := by kernel_rfl
theorem tb_spec_FrontBoth_10.bits : waitsOk tb_spec_FrontBoth_10.T.2 tb_spec_FrontBoth_10.B = true := by kernel_rfl
set_option maxRecDepth 100000 in
set_option maxHeartbeats 4000000 in
theorem spec_FrontBoth (v v2 : Value) (f g : List Tm) (w : World) (h : Sl kTm w v f) (h2 : Sl kTm w v2 g) (hf : f.length ≤ 100) (hg : g.length ≤ 100) : Calls Try.prog 86 #[v, v2] w (FrP w) := by
 have HS := Aside0.mk h
 have HS2 := Aside0.mk h2
 obtain ⟨A, c_, rfl, HC, hr⟩ := h
 have hm := Kd.C_max hr
 have HR := Aside0.mk hr
 clear hr
 obtain ⟨A2, c2_, rfl, HC2, hr2⟩ := h2
 have hm2 := Kd.C_max hr2
 have HR2 := Aside0.mk hr2
 clear hr2
 have HN := Aside0.mk (R_none (d := kTm) (e := 43) (base := w.heap.size) (ok := okT) (blk_new w (.cells #[] 43)) (Nat.le_refl _) trivial)
 have HB0 := Aside0.mk (below_alloc (Below.refl w.heap.size w) (.cells #[] 43))
 cases hf1 : frontOk f <;> cases hf2 : frontOk g
 case true.true =>
  go_enter Try.func86, Try.ntmps86
  have HF1 := Aside0.mk (show ∀ W, Below w.heap.size w W → Calls Try.prog 87 #[.slice A f.length c_] W (RetV W (.bool true)) from fun W hW => by have := spec_FrontOk _ f W (HS.out.below hW); rwa [hf1] at this)
  have HF2 := Aside0.mk (show ∀ W, Below w.heap.size w W → Calls Try.prog 87 #[.slice A2 g.length c2_] W (RetV W (.bool true)) from fun W hW => by have := spec_FrontOk _ g W (HS2.out.below hW); rwa [hf2] at this)
  go_upto_region 4 with (first
   | (go_at_call 87; ((with_reducible refine (HF1.out _ HB0.out).mono ?_); rintro e wa ⟨rfl, hb⟩; have HB1 := Aside0.mk (bthen HB0.out hb); have HN1 := Aside0.mk (Kd.R_below HN.out hb); clear hb))
   | (go_at_call 87; ((with_reducible refine (HF2.out _ HB1.out).mono ?_); rintro e wb ⟨rfl, hb⟩; have HB := Aside0.mk (bthen HB1.out hb); have HO := Aside0.mk (Kd.R_below HN1.out hb); clear hb)))
  clear HF1 HF2 HB0 HB1 HN HN1 hf1 hf2
  go_wp2
  go_loopw [5, 6] (fun o i wr => ∃ (k : Nat) (acc : List Tm), k ≤ f.length ∧ i = .int .i64 k ∧ Aside0 (acc.length ≤ 100 * k) ∧ Aside0 (kTm.R 43 wr w.heap.size okT o acc) ∧ Aside0 (Below w.heap.size w wr)) (fun _ i _ => f.length - (intOf i).toNat)
  case atStart => exact ⟨0, [], by omega, rfl, ⟨by decide⟩, HO, HB⟩
  case round =>
   clear HO HB
   obtain ⟨k, acc, hk, rfl, HL, HO, HB⟩ := hrel
   by_cases hlt : k < f.length
   ·go_wp2
    go_loopw [5, 7] (fun o i wr => ∃ (j : Nat) (acc : List Tm), j ≤ g.length ∧ i = .int .i64 j ∧ Aside0 (acc.length ≤ 100 * k + j) ∧ Aside0 (kTm.R 43 wr w.heap.size okT o acc) ∧ Aside0 (Below w.heap.size w wr)) (fun _ i _ => g.length - (intOf i).toNat)
    case atStart => exact ⟨0, acc, by omega, rfl, ⟨by have := HL.out; omega⟩, HO, HB⟩
    case round =>
     clear HO HB HL
     obtain ⟨j, acc, hj, rfl, HL, HO, HB⟩ := hrel
     by_cases hlt2 : j < g.length
     ·obtain ⟨ad, x, e, HX, h0, h1⟩ := rdTm HR.out HB.out hlt
      cases e
      obtain ⟨ad2, y, e, HY, h2, h3⟩ := rdTm HR2.out HB.out hlt2
      cases e
      have hal : acc.length < 3518437208000 := by have := HL.out; omega
      have hws := HB.out.size
      go_upto_region 10 with fail
      have HOd := Aside0.mk (R_drew HO.out)
      have HTJ := Aside0.mk (spec_TimeJoin x.f0 x.f1 y.f0 y.f1 wr.drew)
      replace h0 : wr.drew.cell? (ad.add (k * 2)) = some (.int .i64 x.f0) := h0
      replace h1 : wr.drew.cell? ⟨(ad.add (k * 2)).block, (ad.add (k * 2)).off + 1, none⟩ = some (.int .i64 x.f1) := h1
      replace h2 : wr.drew.cell? (ad2.add (j * 2)) = some (.int .i64 y.f0) := h2
      replace h3 : wr.drew.cell? ⟨(ad2.add (j * 2)).block, (ad2.add (j * 2)).off + 1, none⟩ = some (.int .i64 y.f1) := h3
      generalize tJoin _ _ = z at HTJ
      refine start_ (n := 13) (S := fun w' => w'.cell? (ad.add (k * 2)) = some (.int .i64 x.f0) ∧ w'.cell? ⟨(ad.add (k * 2)).block, (ad.add (k * 2)).off + 1, none⟩ = some (.int .i64 x.f1) ∧ w'.cell? (ad2.add (j * 2)) = some (.int .i64 y.f0) ∧ w'.cell? ⟨(ad2.add (j * 2)).block, (ad2.add (j * 2)).off + 1, none⟩ = some (.int .i64 y.f1)) (ds := [11]) #[false, false, false, false, false, false, false, false, false, false, false, false, false] (by kernel_rfl) rfl rfl ⟨h0, h1, h2, h3⟩ (fun hHeld => ?_)
      refine with_tabW tb_spec_FrontBoth_10.tab tb_spec_FrontBoth_10.bits (fun HT_ HW_ => ?_)
      refine pure_ (i := 0) (N := some 30) (v := ?_) (a' := ?_) #[true, false, false, false, false, false, false, false, false, false, false, false, false] rfl rfl (any_of HT_.out (by kernel_rfl)) (fun _ _ _ h => h) (Or.inl ⟨by rfl, ?_⟩) ?_ ?_
      rotate_left
      ·intro w'
       go_simp
       with_reducible rfl
      rotate_left
      ·simp only [Act.put, setIfInBounds_toArray, set_cons_zero, set_cons_succ, i64_w]
       rfl
      refine pure_ (i := 1) (N := some 31) (v := ?_) (a' := ?_) #[true, true, false, false, false, false, false, false, false, false, false, false, false] rfl rfl (any_of HT_.out (by kernel_rfl)) (fun _ _ _ h => h) (Or.inl ⟨by rfl, ?_⟩) ?_ ?_
      rotate_left
      ·intro w'
       go_simp
       with_reducible rfl
      rotate_left
      ·simp only [Act.put, setIfInBounds_toArray, set_cons_zero, set_cons_succ, i64_w]
       rfl
      refine pure_ (i := 2) (N := some 32) (v := ?_) (a' := ?_) #[true, true, true, false, false, false, false, false, false, false, false, false, false] rfl rfl (any_of HT_.out (by kernel_rfl)) (fun _ _ _ h => h) (Or.inl ⟨by rfl, ?_⟩) ?_ ?_
      rotate_left
      ·intro w'
       go_simp
       with_reducible rfl
      rotate_left
      ·simp only [Act.put, setIfInBounds_toArray, set_cons_zero, set_cons_succ, i64_w]
       rfl
      refine pure_ (i := 3) (N := some 33) (v := ?_) (a' := ?_) #[true, true, true, true, false, false, false, false, false, false, false, false, false] rfl rfl (any_of HT_.out (by kernel_rfl)) (fun _ _ _ h => h) (Or.inl ⟨by rfl, ?_⟩) ?_ ?_
      rotate_left
      ·intro w'
       go_simp
       with_reducible rfl
      rotate_left
      ·simp only [Act.put, setIfInBounds_toArray, set_cons_zero, set_cons_succ, i64_w]
       rfl
      refine pure_ (i := 5) (N := some 35) (v := ?_) (a' := ?_) #[true, true, true, true, false, true, false, false, false, false, false, false, false] rfl rfl (any_of HT_.out (by kernel_rfl)) (fun _ _ _ h => h) (Or.inl ⟨by rfl, ?_⟩) ?_ ?_
      rotate_left
      ·intro w'
       go_simp
       with_reducible rfl
      rotate_left
      ·simp only [Act.put, setIfInBounds_toArray, set_cons_zero, set_cons_succ, i64_w]
       rfl
      refine pure_ (i := 6) (N := some 36) (v := ?_) (a' := ?_) #[true, true, true, true, false, true, true, false, false, false, false, false, false] rfl rfl (any_of HT_.out (by kernel_rfl)) (fun _ _ _ h => h) (Or.inl ⟨by rfl, ?_⟩) ?_ ?_
      rotate_left
      ·intro w'
       go_simp
       with_reducible rfl
      rotate_left
      ·simp only [Act.put, setIfInBounds_toArray, set_cons_zero, set_cons_succ, i64_w]
       rfl
      refine pure_ (i := 7) (N := some 37) (v := ?_) (a' := ?_) #[true, true, true, true, false, true, true, true, false, false, false, false, false] rfl rfl (any_of HT_.out (by kernel_rfl)) (fun _ _ _ h => h) (Or.inl ⟨by rfl, ?_⟩) ?_ ?_
      rotate_left
      ·intro w'
       go_simp
       with_reducible rfl
      rotate_left
      ·simp only [Act.put, setIfInBounds_toArray, set_cons_zero, set_cons_succ, i64_w]
       rfl
      refine take_ (i := 4) (N := some 34) (v := ?_) (a' := ?_) #[true, true, true, true, true, true, true, true, false, false, false, false, false] rfl rfl (take_ofW HT_.out HW_.out (by kernel_rfl)) (fun _ _ _ h => h) (Or.inl ⟨by rfl, ?_⟩) hHeld ?_ ?_
      rotate_left
      ·rintro w' ⟨s0, s1, s2, s3⟩
       go_simp
       with_reducible rfl
      rotate_left
      ·simp only [Act.put, setIfInBounds_toArray, set_cons_zero, set_cons_succ, i64_w]
       rfl
      refine take_ (i := 8) (N := some 38) (v := ?_) (a' := ?_) #[true, true, true, true, true, true, true, true, true, false, false, false, false] rfl rfl (take_ofW HT_.out HW_.out (by kernel_rfl)) (fun _ _ _ h => h) (Or.inl ⟨by rfl, ?_⟩) hHeld ?_ ?_
      rotate_left
      ·rintro w' ⟨s0, s1, s2, s3⟩
       go_simp
       with_reducible rfl
      rotate_left
      ·simp only [Act.put, setIfInBounds_toArray, set_cons_zero, set_cons_succ, i64_w]
       rfl
      refine one_ (i := 9) (N := some 39) #[true, true, true, true, true, true, true, true, true, true, false, false, false] rfl rfl (one_of HT_.out (by kernel_rfl)) (by decide) (fun K hK => ?_)
      refine goes_ Try.func89 (by kernel_rfl) rfl #[.agg #[.int .i64 x.f0, .int .i64 x.f1], .agg #[.int .i64 y.f0, .int .i64 y.f1]] (by rfl) rfl rfl (by simp only [List.map_toArray, List.map_cons, List.map_nil]; rfl) ?_
      with_reducible refine (HTJ.out).mono ?_
      rintro e w6 ⟨rfl, hb0⟩
      refine ⟨_, rfl, ?_⟩
      have hb6 := bthen (below_drew (Below.refl wr.heap.size wr)) hb0
      have HB6 := Aside0.mk (bthen HB.out hb6)
      have HO6 := Aside0.mk (Kd.R_below HOd.out hb0)
      have hw6 := Nat.le_trans hws hb6.size
      refine hK.out _ _ ⟨pw_cell_below hb0 h0, pw_cell_below hb0 h1, pw_cell_below hb0 h2, pw_cell_below hb0 h3⟩ (fun hHeld => ?_)
      clear hK K
      refine norm_ (a' := ?_) ?_ ?_
      rotate_left
      ·show Act.put _ (some 39) _ = _
       simp only [Act.put, setIfInBounds_toArray, set_cons_zero, set_cons_succ, i64_w]
       rfl
      refine one_ (i := 10) (N := some 40) #[true, true, true, true, true, true, true, true, true, true, true, false, false] rfl rfl (one_of HT_.out (by kernel_rfl)) (by decide) (fun K hK => ?_)
      refine value_ (w1 := ?_) (v := ?_) (by rfl) rfl ?_ ?_
      rotate_left 2
      ·go_simp
       constructor
       ·rfl
       ·rfl
      refine hK.out _ _ ⟨pw_cell_below (below_alloc (Below.refl _ _) _) (pw_cell_below hb0 h0), pw_cell_below (below_alloc (Below.refl _ _) _) (pw_cell_below hb0 h1), pw_cell_below (below_alloc (Below.refl _ _) _) (pw_cell_below hb0 h2), pw_cell_below (below_alloc (Below.refl _ _) _) (pw_cell_below hb0 h3)⟩ (fun hHeld => ?_)
      clear hK K
      refine norm_ (a' := ?_) ?_ ?_
      rotate_left
      ·show Act.put _ (some 40) _ = _
       simp only [Act.put, setIfInBounds_toArray, set_cons_zero, set_cons_succ, i64_w]
       rfl
      refine last_ (i := 11) (N := some 41) #[true, true, true, true, true, true, true, true, true, true, true, true, false] rfl rfl (one_of HT_.out (by kernel_rfl)) (by decide) (fun K hK => ?_)
      refine stepTm (W := w6) (base := w.heap.size) (xs := acc) (ok := okT) rfl rfl rfl HO6.out (fun _ _ => trivial) hw6 hal ?_
      intro v14 w3 hr3 hb3 hg3
      have HO3 := Aside0.mk hr3
      have HB3 := Aside0.mk (below_more HB6.out hb3)
      clear hr3 hb3 hg3
      refine hK.out _ _ ?_
      clear hK K
      refine norm_ (a' := ?_) ?_ ?_
      rotate_left
      ·show Act.put _ (some 41) _ = _
       simp only [Act.put, setIfInBounds_toArray, set_cons_zero, set_cons_succ, i64_w]
       rfl
      refine pure_ (i := 12) (N := some 5) (v := ?_) (a' := ?_) #[true, true, true, true, true, true, true, true, true, true, true, true, true] rfl rfl (any_of HT_.out (by kernel_rfl)) (fun _ _ _ h => h) (Or.inl ⟨by rfl, ?_⟩) ?_ ?_
      rotate_left
      ·intro w'
       go_simp
       with_reducible rfl
      rotate_left
      ·simp only [Act.put, setIfInBounds_toArray, set_cons_zero, set_cons_succ, i64_w]
       rfl
      refine done_ (done_of HT_.out (by kernel_rfl)) ?_
      clear HT_ HW_ hHeld hb0 hb6
      go_wp2
      go_roundw
      case rel => exact ⟨j + 1, _, by omega, by go_num, ⟨by have := HL.out; rw [List.length_append, List.length_singleton]; omega⟩, HO3, HB3⟩
      case measure => simp [intOf]; omega
     ·have hj2 : j ≤ 100 := Nat.le_trans hj hg
      go_wp2
      go_roundw
      case rel => exact ⟨k + 1, acc, by omega, by go_num, ⟨by have := HL.out; omega⟩, HO, HB⟩
      case measure => simp [intOf]; omega
   ·go_wp2_with (go_at_call 138; ((with_reducible refine (spec_FrontOf _ acc _ (Sl.of_R HO.out)).mono ?_); rintro e wb ⟨v3, l3, rfl, hr2, hl2, ho2, hb⟩; have HF := Aside0.mk (Kd.R_lower hr2 HB.out.size); replace HB := Aside0.mk (bthen HB.out hb); clear hr2 ho2 hb))
    go_ret
    exact ⟨_, l3, rfl, HF.out, hl2, HB.out⟩
 all_goals
  go_enter Try.func86, Try.ntmps86
  go_wp2_with (first
   | (go_at_call 87; ((with_reducible refine (spec_FrontOk _ f _ (HS.out.below HB0.out)).mono ?_); rintro e wa ⟨rfl, hb⟩; rw [hf1]; have HB1 := Aside0.mk (bthen HB0.out hb); have HN1 := Aside0.mk (Kd.R_below HN.out hb); clear hb))
   | (go_at_call 87; ((with_reducible refine (spec_FrontOk _ g _ (HS2.out.below HB1.out)).mono ?_); rintro e wb ⟨rfl, hb⟩; rw [hf2]; have HB2 := Aside0.mk (bthen HB1.out hb); have HN2 := Aside0.mk (Kd.R_below HN1.out hb); clear hb)))
  go_ret
  first
   | exact ⟨_, [], rfl, HN2.out, by decide, HB2.out⟩
   | exact ⟨_, [], rfl, HN1.out, by decide, HB1.out⟩
def SpnF (w : World) (e : Ending) (w' : World) : Prop := ∃ (u v vg : Value) (ls : List (List Rw)) (f g : List Tm), e = .returned (.tuple #[.agg #[u, v], vg]) ∧ SpS w' u v ls f ∧ Sl kTm w' vg g ∧ SpD 300 ls f ∧ g.length ≤ 70 ∧ Below w.heap.size w w'
set_option maxRecDepth 100000 in
set_option maxHeartbeats 4000000 in
theorem spec_DrawSpineSince (v : Value) (l : List Int) (w : World) (h : Sl kB w v l) (hb : ∀ x ∈ l, 0 ≤ x ∧ x ≤ 255) : Calls Try.prog 22 #[v] w (SpnF w) := by
 obtain ⟨w0, hw0⟩ : ∃ w0, w0 = w.alloc (.cells #[.slice none 0 0, .slice none 0 0] 26) := ⟨_, rfl⟩
 have C1 := spec_l6Open v l w0 (by rw [hw0]; exact h.below (below_alloc (Below.refl _ _) _)) hb
 have HC : Aside0 (w0.heap[w.heap.size]? = some (.cells #[.slice none 0 0, .slice none 0 0] 26 (0, 0))) := ⟨by rw [hw0]; exact blk_new w _⟩
 have hsz : w0.heap.size = w.heap.size + 1 := by rw [hw0]; simp
 have HUN := Aside0.mk (fun (W : World) (hW : Below w0.heap.size w0 W) => below_un (w := w) (o := (.cells #[.slice none 0 0, .slice none 0 0] 26)) (by rw [← hw0]; exact hW))
 go_enter Try.func22, Try.ntmps22
 go_upto_region 1 with fail
 rw [← hw0]
 obtain ⟨T, hT⟩ : ∃ T, T = w.heap.size := ⟨_, rfl⟩
 rw [← hT] at HC ⊢
 have HTw := Aside0.mk (show w.heap.size ≤ T by omega)
 have hT1 : T < w0.heap.size := by omega
 clear hw0 hT hsz
 go_upto_region 2 with (go_at_call 67; ((with_reducible refine C1.mono ?_); rintro e V ⟨rb, s_, rfl, hs, hrd, hba⟩; have hS := Aside0.mk hs; have HR := Aside0.mk hrd; have hge := hrd.ge; have hbl := hrd.lt; have hVs := hba.size; replace HC := Aside0.mk (blk_below HC.out hba); clear hs hrd hba))
 clear C1 h hb
 have HCS := Aside0.mk (spec_l71Spine (V := V) hS HR.out (by omega))
 go_upto_region 3 with (go_at_call 68; ((with_reducible refine HCS.out.mono ?_); rintro e wb ⟨u, v, ls, f, rfl, hsp, hd, p1, g0, g1, hrd, hg⟩; obtain ⟨A9, c9, e9⟩ := Kd.R_slice hsp.1; subst e9; obtain ⟨A10, c10, e9⟩ := Kd.R_slice hsp.2; subst e9; have HSP := Aside0.mk hsp; have HM := Aside0.mk hd; replace HR := Aside0.mk hrd; have HV := Aside0.mk hg; replace HC := Aside0.mk (blk_grown HC.out hg (by intro e; have := Option.some.inj e; omega)); clear hsp hd hrd hg))
 clear HCS
 have hwV := HV.out.size
 refine name_world fun W1 hW => ?_
 have B0 : W1.heap[wb.heap.size]? = some (.cells #[.slice A9 ls.length c9, .slice A10 f.length c10] 26 (0, 0)) := by rw [hW]; exact blk_new wb _
 have hb1 : Below wb.heap.size wb W1 := by rw [hW]; repeat (first | exact Below.refl _ _ | apply below_alloc | refine below_set ?_ (by simp))
 clear hW
 generalize hX : wb.heap.size = X at B0 ⊢
 have HFx : Aside0 (DF w0 rb V X T) := ⟨⟨hVs, by omega, by omega, by omega, by omega⟩⟩
 have HD : Aside0 (DS w0 rb s_ V X T (.slice A9 ls.length c9) (.slice A10 f.length c10) ls f p1 W1) := ⟨⟨HR.out.below hb1, HSP.out.below hb1, B0, blk_below HC.out hb1, grownBy_after HV.out hb1⟩⟩
 clear hX hb1 B0 HC HR HSP HV hwV hge hVs hT1
 have hf70 := HM.out.fl
 go_upto_region 4 with (go_at_call 75; ((with_reducible refine (spec_l71Some hS HD.out.rd (by omega)).mono ?_); rintro e wb ⟨vg, g, rfl, hr2, hl2, p2, g2, g3, hrd, hg⟩; have HG := Aside0.mk hr2; replace HD := Aside0.mk (HD.out.pick hrd hg HFx.out); clear hr2 hrd hg))
 obtain ⟨A7, c7, e7⟩ := Kd.R_slice HG.out
 subst e7
 have x0 := HD.out.x0
 have x1 := HD.out.x1
 by_cases hgo : 0 < f.length ∧ 0 < g.length
 ·have k1 : (f.length : Int) > 0 := by omega
  have k2 : (g.length : Int) > 0 := by omega
  go_upto_if 26 with (go_at_call 69; ((with_reducible refine (spec_pick hS.out HD.out.rd (by omega) 4 (by omega) (by omega)).mono ?_); rintro e wc ⟨t, rfl, t0, t1, hr, hgr⟩; replace HG := Aside0.mk (R_rd HG.out HD.out.rd hgr (by decide)); replace HD := Aside0.mk (HD.out.pick hr hgr HFx.out); replace x0 := HD.out.x0; replace x1 := HD.out.x1; clear hr hgr))
  clear t0 t1
  cases hgt : decide (0 < t)
  ·have v0 := blk_cell HD.out.tb 0
   have v1 := blk_cell HD.out.tb 1
   have tf0 := blk_fz HD.out.tb 0
   have tf1 := blk_fz HD.out.tb 1
   go_wp2
   refine bodyPost_ret (results_ct rfl _ _ T 26 #[.slice A9 ls.length c9, .slice A10 f.length c10] (0, 0) _ rfl (blk2 HD.out.tb _ _) Try.underlying26 rfl (by kernel_rfl)) rfl ?_
   exact ⟨_, _, _, ls, f, g, rfl, SpT.s (SpT.set2 HD.out.sp HD.out.tb _ _), Sl.of_R (Rset2 HG.out HD.out.tb (by decide) _ _), HM.out.mono (by decide), by omega, below_set (below_set (HUN.out _ HD.out.rd.bel) HTw.out) HTw.out⟩
  ·go_wp2_with (go_at_call 86; ((with_reducible refine (spec_FrontBoth _ _ f g _ (Sl.of_R HD.out.sv) (Sl.of_R HG.out) (Nat.le_trans hf70 (by decide)) (Nat.le_trans hl2 (by decide))).mono ?_); rintro e wd ⟨vh, gh, rfl, hr3, hl3, hb⟩; have HH := Aside0.mk (Kd.R_lower hr3 HD.out.le); replace HD := Aside0.mk (HD.out.below hb); replace x0 := HD.out.x0; replace x1 := HD.out.x1; have v0 := blk_cell HD.out.tb 0; have v1 := blk_cell HD.out.tb 1; have tf0 := blk_fz HD.out.tb 0; have tf1 := blk_fz HD.out.tb 1; clear hr3 hb))
   refine bodyPost_ret (results_ct rfl _ _ T 26 #[.slice A9 ls.length c9, .slice A10 f.length c10] (0, 0) _ rfl (blk2 HD.out.tb _ _) Try.underlying26 rfl (by kernel_rfl)) rfl ?_
   exact ⟨_, _, _, ls, f, gh, rfl, SpT.s (SpT.set2 HD.out.sp HD.out.tb _ _), Sl.of_R (Rset2 HH.out HD.out.tb (by decide) _ _), HM.out.mono (by decide), Nat.le_trans hl3 (by decide), below_set (below_set (HUN.out _ HD.out.rd.bel) HTw.out) HTw.out⟩
 ·rcases (show f.length = 0 ∨ (0 < f.length ∧ g.length = 0) by omega) with h0 | ⟨h0, h1⟩
  ·have k1 : ¬ (f.length : Int) > 0 := by omega
   clear h0 hgo
   have v0 := blk_cell HD.out.tb 0
   have v1 := blk_cell HD.out.tb 1
   have tf0 := blk_fz HD.out.tb 0
   have tf1 := blk_fz HD.out.tb 1
   go_wp2
   refine bodyPost_ret (results_ct rfl _ _ T 26 #[.slice A9 ls.length c9, .slice A10 f.length c10] (0, 0) _ rfl (blk2 HD.out.tb _ _) Try.underlying26 rfl (by kernel_rfl)) rfl ?_
   exact ⟨_, _, _, ls, f, g, rfl, SpT.s (SpT.set2 HD.out.sp HD.out.tb _ _), Sl.of_R (Rset2 HG.out HD.out.tb (by decide) _ _), HM.out.mono (by decide), by omega, below_set (below_set (HUN.out _ HD.out.rd.bel) HTw.out) HTw.out⟩
  ·have k1 : (f.length : Int) > 0 := by omega
   have k2 : ¬ (g.length : Int) > 0 := by omega
   clear h0 h1 hgo
   have v0 := blk_cell HD.out.tb 0
   have v1 := blk_cell HD.out.tb 1
   have tf0 := blk_fz HD.out.tb 0
   have tf1 := blk_fz HD.out.tb 1
   go_wp2
   refine bodyPost_ret (results_ct rfl _ _ T 26 #[.slice A9 ls.length c9, .slice A10 f.length c10] (0, 0) _ rfl (blk2 HD.out.tb _ _) Try.underlying26 rfl (by kernel_rfl)) rfl ?_
   exact ⟨_, _, _, ls, f, g, rfl, SpT.s (SpT.set2 HD.out.sp HD.out.tb _ _), Sl.of_R (Rset2 HG.out HD.out.tb (by decide) _ _), HM.out.mono (by decide), by omega, below_set (below_set (HUN.out _ HD.out.rd.bel) HTw.out) HTw.out⟩
end Go.Proofs.Ytkdendlgaaimbaa.X
