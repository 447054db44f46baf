/- Conditions: none. -/
import Derived.Test.YtkdendlgaaimbaaGreatYIDrSr
import Derived.RegionTactic
import Derived.BigRegion
namespace Go.Proofs.YtkdendlgaaimbaaGreat.X
open Go.RowKit Go.Proofs.YtkdendlgaaimbaaGreatW.PrintWords Go.Proofs.YtkdendlgaaimbaaGreatW.PrintLast
open List (setIfInBounds_toArray set_cons_zero set_cons_succ)
set_option linter.unusedVariables false
set_option linter.unusedSimpArgs false
theorem tzero (t : Int) : (t == 0) = true ∨ (t == 0) = false := by cases h : (t == 0); exact .inr rfl; exact .inl rfl
def SpnI (w : World) (e : Ending) (w' : World) : Prop := ∃ (u v vb : Value) (ls : List (List Rw)) (f : List Tm) (b : List Rw), e = .returned (.tuple #[.agg #[u, v], vb]) ∧ SpS w' u v ls f ∧ Sl kRw w' vb b ∧ SpD 300 ls f ∧ b.length ≤ 5 ∧ Below w.heap.size w w'
def tb_spec_DrawSpineIn_6.T : Bool × List (List Nat × List Nat) := (true, [([], []), ([], []), ([], []), ([2], [2]), ([], []), ([4], [4]), ([1, 3, 5, 3], [1, 3, 5]), ([0, 6, 6], [0, 6]), ([7], [7]), ([8], [8]), ([8], [8]), ([], []), ([11, 9, 7, 0, 1, 2, 3, 4, 5, 6, 7, 8, 9, 11], [9, 11]), ([10, 12, 0, 1, 2, 3, 4, 5, 6, 7, 8, 9, 10, 11, 12], [10])])
def tb_spec_DrawSpineIn_6.B : List Nat := [0, 0, 0, 4, 0, 16, 62, 127, 255, 511, 511, 0, 3071, 8191]
theorem tb_spec_DrawSpineIn_6.tab : rtab .any (opsOf Tryz.f6 6) = tb_spec_DrawSpineIn_6.T := by kernel_rfl
theorem tb_spec_DrawSpineIn_6.bits : waitsOk tb_spec_DrawSpineIn_6.T.2 tb_spec_DrawSpineIn_6.B = true := by kernel_rfl
set_option maxRecDepth 100000 in
set_option maxHeartbeats 8000000 in
theorem spec_DrawSpineIn (v : Value) (l : List Int) (w : World) (h : Sl kB w v l) (hb : ∀ x ∈ l, 0 ≤ x ∧ x ≤ 255) : Calls Tryz.prog 6 #[v] w (SpnI w) := by
 obtain ⟨w0, hw0⟩ : ∃ w0, w0 = w.alloc (.cells #[.slice none 0 0, .slice none 0 0] 26) := ⟨_, rfl⟩
 have C1 := spec_l6Open v l w0 (by rw [hw0]; exact h.below (below_alloc (Below.refl _ _) _)) hb
 have HC : Aside0 (w0.heap[w.heap.size]? = some (.cells #[.slice none 0 0, .slice none 0 0] 26 (0, 0))) := ⟨by rw [hw0]; exact blk_new w _⟩
 have hsz : w0.heap.size = w.heap.size + 1 := by rw [hw0]; simp
 have HUN := Aside0.mk (fun (W : World) (hW : Below w0.heap.size w0 W) => below_un (w := w) (o := (.cells #[.slice none 0 0, .slice none 0 0] 26)) (by rw [← hw0]; exact hW))
 go_enter Tryz.func6, Tryz.ntmps6
 go_upto_region 1 with fail
 rw [← hw0]
 obtain ⟨T, hT⟩ : ∃ T, T = w.heap.size := ⟨_, rfl⟩
 rw [← hT] at HC ⊢
 have HTw := Aside0.mk (show w.heap.size ≤ T by omega)
 have hT1 : T < w0.heap.size := by omega
 clear hw0 hT hsz
 go_upto_region 2 with (go_at_call 25; ((with_reducible refine C1.mono ?_); rintro e V ⟨rb, s_, rfl, hs, hrd, hba⟩; have hS := Aside0.mk hs; have HR := Aside0.mk hrd; have hge := hrd.ge; have hbl := hrd.lt; have hVs := hba.size; replace HC := Aside0.mk (blk_below HC.out hba); clear hs hrd hba))
 clear C1 h hb
 have HCS := Aside0.mk (spec_l71Spine (V := V) hS HR.out (by omega))
 go_upto_region 3 with (go_at_call 26; ((with_reducible refine HCS.out.mono ?_); rintro e wb ⟨u, v, ls, f, rfl, hsp, hd, p1, g0, g1, hrd, hg⟩; obtain ⟨A9, c9, e9⟩ := Kd.R_slice hsp.1; subst e9; obtain ⟨A10, c10, e9⟩ := Kd.R_slice hsp.2; subst e9; have HSP := Aside0.mk hsp; have HM := Aside0.mk hd; replace HR := Aside0.mk hrd; have HV := Aside0.mk hg; replace HC := Aside0.mk (blk_grown HC.out hg (by intro e; have := Option.some.inj e; omega)); clear hsp hd hrd hg))
 clear HCS
 have hwV := HV.out.size
 refine name_world fun W1 hW => ?_
 have B0 : W1.heap[wb.heap.size]? = some (.cells #[.slice A9 ls.length c9, .slice A10 f.length c10] 26 (0, 0)) := by rw [hW]; exact blk_new wb _
 have hb1 : Below wb.heap.size wb W1 := by rw [hW]; repeat (first | exact Below.refl _ _ | apply below_alloc | refine below_set ?_ (by simp))
 clear hW
 generalize hX : wb.heap.size = X at B0 ⊢
 have HFx : Aside0 (DF w0 rb V X T) := ⟨⟨hVs, by omega, by omega, by omega, by omega⟩⟩
 have HD : Aside0 (DS w0 rb s_ V X T (.slice A9 ls.length c9) (.slice A10 f.length c10) ls f p1 W1) := ⟨⟨HR.out.below hb1, HSP.out.below hb1, B0, blk_below HC.out hb1, grownBy_after HV.out hb1⟩⟩
 clear hX hb1 B0 HC HR HSP HV hwV hge hVs hT1
 have CB := Aside0.mk (show ∀ (W : World) (q : Int), Rd w0 rb s_ q W → q ≤ 600000 → Calls Tryz.prog 29 #[.pointer (some ⟨rb, 0, none⟩), .int .i64 3] W (BatP w0 rb s_ q W 3 31) from fun W q hr hq => spec_l71Batch hS hr hq 3 (by decide))
 have CB5 := Aside0.mk (show ∀ (W : World) (q : Int), Rd w0 rb s_ q W → q ≤ 600000 → Calls Tryz.prog 29 #[.pointer (some ⟨rb, 0, none⟩), .int .i64 5] W (BatP w0 rb s_ q W 5 51) from fun W q hr hq => spec_l71Batch hS hr hq 5 (by decide))
 go_upto_block 0 with fail
 go_cut [] (fun wc => ∃ (u v : Value) (ls : List (List Rw)) (f : List Tm) (p2 : Int), 0 ≤ p2 ∧ p2 ≤ 900 ∧ Aside0 (SpD 240 ls f) ∧ Aside0 (DS w0 rb s_ V X T u v ls f p2 wc))
 case first =>
  go_wp2
  go_loopw [6] (fun i wr => ∃ (k : Nat) (u v : Value) (ls : List (List Rw)) (f : List Tm) (pp : Int), k ≤ 8 ∧ i = .int .i64 k ∧ f.length ≤ 70 ∧ 0 ≤ pp ∧ pp ≤ 420 + 46 * k ∧ Aside0 (SpD (120 + 9 * k) ls f) ∧ Aside0 (DS w0 rb s_ V X T u v ls f pp wr)) (fun i _ => 8 - (intOf i).toNat)
  case atStart => exact ⟨0, _, _, _, _, p1, by omega, rfl, HM.out.fl, by omega, by omega, ⟨HM.out.mono (by decide)⟩, HD⟩
  case round =>
   clear HD HM
   obtain ⟨k, u, v, ls, f, pp, hk, rfl, hf6, hp0, hp1, HM, HD⟩ := hrel
   obtain ⟨A7, c7, e7⟩ := Kd.R_slice HD.out.sp.1
   subst e7
   have x0 := HD.out.x0
   have HM240 := Aside0.mk (HM.out.mono (show (120 : Int) + 9 * (k : Int) ≤ 240 by omega))
   by_cases hlt : k < 8
   ·have hltz : (k : Int) < 8 := by omega
    by_cases hl6 : ls.length < 6
    ·have hl6z : (ls.length : Int) < 6 := by omega
     go_upto_if 26 with (go_at_call 27; ((with_reducible refine (spec_pick hS.out HD.out.rd (by omega) 3 (by omega) (by omega)).mono ?_); rintro e w' ⟨t, rfl, t0, t1, hr, hg⟩; replace HD := Aside0.mk (HD.out.pick hr hg HFx.out); replace x0 := HD.out.x0; clear hr hg; rcases tzero t with htb | htb))
     ·go_upto_region 6 with fail
      obtain ⟨u, hu⟩ : ∃ u, u = Value.slice A7 ls.length c7 := ⟨_, rfl⟩
      rw [← hu] at HD ⊢
      obtain ⟨p', hpe⟩ : ∃ p' : Int, p' = pp + 1 := ⟨_, rfl⟩
      rw [← hpe] at HD
      replace HD := Aside0.mk (HD.out.below (below_drew (Below.refl _ _)))
      have HQ6 := Aside0.mk (show p' ≤ 600000 by omega)
      have HQ := Aside0.mk (show ∀ q : Int, q ≤ p' + 31 → q ≤ 800000 from fun q hq => by omega)
      have HSB := Aside0.mk HM.out.b
      have HFL := Aside0.mk (Nat.le_trans HM.out.fl (show 70 ≤ 100000 by decide))
      have MB := Aside0.mk (show (120 : Int) + 9 * (k : Int) ≤ 99999 by omega)
      clear x0 hu t0 t1
      refine start_ (n := 14) (S := fun w' => w'.cell? ⟨X, 0, none⟩ = some u ∧ w'.cell? ⟨X, 1, none⟩ = some v) (ds := [12]) #[false, false, false, false, false, false, false, false, false, false, false, false, false, false] (by kernel_rfl) rfl rfl ⟨HD.out.x0, HD.out.x1⟩ (fun hHeld => ?_)
      refine with_tabW tb_spec_DrawSpineIn_6.tab tb_spec_DrawSpineIn_6.bits (fun HT_ HW_ => ?_)
      refine pure_ (i := 1) (N := some 31) (v := ?_) (a' := ?_) #[false, true, false, false, false, false, false, false, false, false, false, false, false, false] rfl rfl (any_of HT_.out (by kernel_rfl)) (fun _ _ _ h => h) (Or.inl ⟨by rfl, ?_⟩) ?_ ?_
      rotate_left; (intro w'; go_simp; with_reducible rfl); rotate_left; (simp only [Act.put, setIfInBounds_toArray, set_cons_zero, set_cons_succ, i64_w]; rfl)
      refine pure_ (i := 2) (N := some 32) (v := ?_) (a' := ?_) #[false, true, true, false, false, false, false, false, false, false, false, false, false, false] rfl rfl (any_of HT_.out (by kernel_rfl)) (fun _ _ _ h => h) (Or.inl ⟨by rfl, ?_⟩) ?_ ?_
      rotate_left; (intro w'; go_simp; with_reducible rfl); rotate_left; (simp only [Act.put, setIfInBounds_toArray, set_cons_zero, set_cons_succ, i64_w]; rfl)
      refine pure_ (i := 4) (N := some 34) (v := ?_) (a' := ?_) #[false, true, true, false, true, false, false, false, false, false, false, false, false, false] rfl rfl (any_of HT_.out (by kernel_rfl)) (fun _ _ _ h => h) (Or.inl ⟨by rfl, ?_⟩) ?_ ?_
      rotate_left; (intro w'; go_simp; with_reducible rfl); rotate_left; (simp only [Act.put, setIfInBounds_toArray, set_cons_zero, set_cons_succ, i64_w]; rfl)
      refine take_ (i := 0) (N := some 30) (v := ?_) (a' := ?_) #[true, true, true, false, true, false, false, false, false, false, false, false, false, false] rfl rfl (take_ofW HT_.out HW_.out (by kernel_rfl)) (fun _ _ _ h => h) (Or.inl ⟨by rfl, ?_⟩) hHeld ?_ ?_
      rotate_left; (rintro w' ⟨s0, s1⟩; go_simp; with_reducible rfl); rotate_left; (simp only [Act.put, setIfInBounds_toArray, set_cons_zero, set_cons_succ, i64_w]; rfl)
      refine take_ (i := 5) (N := some 35) (v := ?_) (a' := ?_) #[true, true, true, false, true, true, false, false, false, false, false, false, false, false] rfl rfl (take_ofW HT_.out HW_.out (by kernel_rfl)) (fun _ _ _ h => h) (Or.inl ⟨by rfl, ?_⟩) hHeld ?_ ?_
      rotate_left; (rintro w' ⟨s0, s1⟩; go_simp; with_reducible rfl); rotate_left; (simp only [Act.put, setIfInBounds_toArray, set_cons_zero, set_cons_succ, i64_w]; rfl)
      refine join_ (σ := (Value × List Rw × Value × List Rw × Option Addr × Nat × Option Addr × Nat × Nat × Int)) 2 #[true, true, true, true, true, true, true, true, true, true, true, true, false, false] (fun s => [(33, s.1), (36, s.2.2.1), (37, .tuple #[.agg #[(.slice s.2.2.2.2.1 (inL ls f s.2.2.2.1).length s.2.2.2.2.2.1), (.slice s.2.2.2.2.2.2.1 (inF ls f s.2.2.2.1).length s.2.2.2.2.2.2.2.1)], .bool (inB ls f s.2.2.2.1)]), (29, .tuple #[.agg #[(.slice s.2.2.2.2.1 (inL ls f s.2.2.2.1).length s.2.2.2.2.2.1), (.slice s.2.2.2.2.2.2.1 (inF ls f s.2.2.2.1).length s.2.2.2.2.2.2.2.1)], .bool (inB ls f s.2.2.2.1)]), (38, .agg #[(.slice s.2.2.2.2.1 (inL ls f s.2.2.2.1).length s.2.2.2.2.2.1), (.slice s.2.2.2.2.2.2.1 (inF ls f s.2.2.2.1).length s.2.2.2.2.2.2.2.1)]), (39, .bool (inB ls f s.2.2.2.1)), (7, .pointer (some ⟨s.2.2.2.2.2.2.2.2.1, 0, none⟩))]) (fun s w' => w'.cell? ⟨X, 0, none⟩ = some u ∧ w'.cell? ⟨X, 1, none⟩ = some v ∧ V.heap.size ≤ s.2.2.2.2.2.2.2.2.1 ∧ (s.2.2.2.2.2.2.2.2.1 ≠ X ∧ s.2.2.2.2.2.2.2.2.1 ≠ T ∧ s.2.2.2.2.2.2.2.2.1 ≠ rb) ∧ w'.heap[s.2.2.2.2.2.2.2.2.1]? = some (.cells #[.slice none 0 0, .slice none 0 0] 26 (0, 0)) ∧ SpT w' V.heap.size okT (.slice s.2.2.2.2.1 (inL ls f s.2.2.2.1).length s.2.2.2.2.2.1) (.slice s.2.2.2.2.2.2.1 (inF ls f s.2.2.2.1).length s.2.2.2.2.2.2.2.1) (inL ls f s.2.2.2.1) (inF ls f s.2.2.2.1) ∧ DS w0 rb s_ V X T u v ls f s.2.2.2.2.2.2.2.2.2 w' ∧ (BatD 3 s.2.2.2.1 ∧ p' ≤ s.2.2.2.2.2.2.2.2.2 ∧ s.2.2.2.2.2.2.2.2.2 ≤ p' + 45)) ?_ ?_
      rotate_left
      ·intro hCont
       refine two_ (i := 3) (j := 11) (Ni := some 33) (Nj := some 7) #[true, true, true, true, true, true, false, false, false, false, false, false, false, false] #[true, true, true, false, true, true, false, false, false, false, false, true, false, false] rfl rfl rfl rfl (two_of HT_.out (by kernel_rfl)) (by decide) (by decide) (fun K hK => ?_) (fun K hK => ?_)
       ·skip
        refine goes_ Tryz.func29 (by kernel_rfl) rfl #[.pointer (some ⟨rb, 0, none⟩), .int .i64 3] (by rfl) rfl rfl (by simp only [List.map_toArray, List.map_cons, List.map_nil]; rfl) ?_
        with_reducible refine (CB.out _ _ HD.out.rd HQ6.out).mono ?_
        rintro e wq ⟨vb, bb, rfl, hr2, hd2, p2, g0, g1, hrd, hg⟩
        refine ⟨_, rfl, ?_⟩
        have HN := Aside0.mk hr2
        have HDB := Aside0.mk hd2
        replace HD := Aside0.mk (HD.out.pick hrd hg HFx.out)
        clear hr2 hd2 hrd hg
        refine hK.out _ _ ⟨HD.out.x0, HD.out.x1⟩ (fun hHeld => ?_)
        clear hK K
        refine norm_ (a' := ?_) ?_ ?_
        rotate_left
        ·show Act.put _ (some 33) _ = _
         simp only [Act.put, setIfInBounds_toArray, set_cons_zero, set_cons_succ, i64_w]
         rfl
        refine two_ (i := 6) (j := 11) (Ni := some 36) (Nj := some 7) #[true, true, true, true, true, true, true, false, false, false, false, false, false, false] #[true, true, true, true, true, true, false, false, false, false, false, true, false, false] rfl rfl rfl rfl (two_of HT_.out (by kernel_rfl)) (by decide) (by decide) (fun K hK => ?_) (fun K hK => ?_)
        ·skip
         refine goes_ Tryz.func28 (by kernel_rfl) rfl #[.pointer (some ⟨rb, 0, none⟩), vb, v] (by rfl) rfl rfl (by simp only [List.map_toArray, List.map_cons, List.map_nil]; rfl) ?_
         with_reducible refine (spec_l71Behind hS HD.out.rd (HQ.out _ g1) vb v bb f HN.out HD.out.sv HDB.out (by decide) HFL.out).mono ?_
         rintro e wq ⟨vc, cb, rfl, hr3, hd3, p3, g2, g3, hrd, hg⟩
         refine ⟨_, rfl, ?_⟩
         have HN2 := Aside0.mk hr3
         have HDC := Aside0.mk hd3
         have HCL := Aside0.mk (Nat.le_trans hd3.2.1 (by decide) : cb.length ≤ 1048576)
         have HGP := Aside0.mk (pp_two g0 g1 g2 g3 (by decide))
         replace HD := Aside0.mk (HD.out.pick hrd hg HFx.out)
         clear hr3 hd3 hrd hg HN HDB
         refine hK.out _ _ ⟨HD.out.x0, HD.out.x1⟩ (fun hHeld => ?_)
         clear hK K
         refine norm_ (a' := ?_) ?_ ?_
         rotate_left
         ·show Act.put _ (some 36) _ = _
          simp only [Act.put, setIfInBounds_toArray, set_cons_zero, set_cons_succ, i64_w]
          rfl
         refine two_ (i := 7) (j := 11) (Ni := some 37) (Nj := some 7) #[true, true, true, true, true, true, true, true, false, false, false, false, false, false] #[true, true, true, true, true, true, true, false, false, false, false, true, false, false] rfl rfl rfl rfl (two_of HT_.out (by kernel_rfl)) (by decide) (by decide) (fun K hK => ?_) (fun K hK => ?_)
         ·skip
          refine goes_ Tryz.func7 (by kernel_rfl) rfl #[.agg #[u, v], vc] (by rfl) rfl rfl (by simp only [List.map_toArray, List.map_cons, List.map_nil]; rfl) ?_
          with_reducible refine (spec_SpineIn u v vc ls f cb _ HD.out.sp.s (Sl.of_R HN2.out) HSB.out HCL.out).mono ?_
          rintro e wq ⟨a, b, rfl, hr9, hb9⟩
          refine ⟨_, rfl, ?_⟩
          obtain ⟨A9, c9, e9⟩ := Kd.R_slice hr9.1
          subst e9
          obtain ⟨A10, c10, e9⟩ := Kd.R_slice hr9.2
          subst e9
          have HSJ := Aside0.mk (SpT.lower (hr9) HD.out.le)
          replace HD := Aside0.mk (HD.out.below hb9)
          clear hr9 hb9
          refine hK.out _ _ ⟨HD.out.x0, HD.out.x1⟩ (fun hHeld => ?_)
          clear hK K
          refine norm_ (a' := ?_) ?_ ?_
          rotate_left
          ·show Act.put _ (some 37) _ = _
           simp only [Act.put, setIfInBounds_toArray, set_cons_zero, set_cons_succ, i64_w]
           rfl
          refine pure_ (i := 8) (N := some 29) (v := ?_) (a' := ?_) #[true, true, true, true, true, true, true, true, true, false, false, false, false, false] rfl rfl (any_of HT_.out (by kernel_rfl)) (fun _ _ _ h => h) (Or.inl ⟨by rfl, ?_⟩) ?_ ?_
          rotate_left; (intro w'; go_simp; with_reducible rfl); rotate_left; (simp only [Act.put, setIfInBounds_toArray, set_cons_zero, set_cons_succ, i64_w]; rfl)
          refine pure_ (i := 9) (N := some 38) (v := ?_) (a' := ?_) #[true, true, true, true, true, true, true, true, true, true, false, false, false, false] rfl rfl (any_of HT_.out (by kernel_rfl)) (fun _ _ _ h => h) (Or.inl ⟨by rfl, ?_⟩) ?_ ?_
          rotate_left; (intro w'; go_simp; with_reducible rfl); rotate_left; (simp only [Act.put, setIfInBounds_toArray, set_cons_zero, set_cons_succ, i64_w]; rfl)
          refine pure_ (i := 10) (N := some 39) (v := ?_) (a' := ?_) #[true, true, true, true, true, true, true, true, true, true, true, false, false, false] rfl rfl (any_of HT_.out (by kernel_rfl)) (fun _ _ _ h => h) (Or.inl ⟨by rfl, ?_⟩) ?_ ?_
          rotate_left; (intro w'; go_simp; with_reducible rfl); rotate_left; (simp only [Act.put, setIfInBounds_toArray, set_cons_zero, set_cons_succ, i64_w]; rfl)
          refine one_ (i := 11) (N := some 7) #[true, true, true, true, true, true, true, true, true, true, true, true, false, false] rfl rfl (one_of HT_.out (by kernel_rfl)) (by decide) (fun K hK => ?_)
          refine box_step ?hb9 (N := 7) ?hd9 (cs := #[.slice none 0 0, .slice none 0 0]) (t := 26) ?hr9 ?_; (case hd9 => rfl); (case hb9 => rfl); (case hr9 => first|(go_simp; done)|(go_simp; rfl))
          intro Y hYe wq hy hby
          have HY := Aside0.mk hy
          have hYN : V.heap.size ≤ Y := by rw [hYe]; exact HD.out.le
          have HYn : Aside0 (Y ≠ X ∧ Y ≠ T ∧ Y ≠ rb) := ⟨by rw [hYe]; exact HD.out.fresh⟩
          replace HSJ := Aside0.mk (SpT.below HSJ.out hby)
          replace HD := Aside0.mk (HD.out.below hby)
          clear hy hYe hby
          refine hK.out _ _ ⟨HD.out.x0, HD.out.x1⟩ (fun hHeld => ?_)
          clear hK K
          refine norm_ (a' := ?_) ?_ ?_
          rotate_left
          ·show Act.put _ (some 7) _ = _
           simp only [Act.put, setIfInBounds_toArray, set_cons_zero, set_cons_succ, i64_w]
           rfl
          exact norm_ (by simp only [Go.Proofs.YtkdendlgaaimbaaGreatW.PrintLast.putAll, Act.put, List.setIfInBounds_toArray, List.set_cons_zero, List.set_cons_succ]) (hCont (vb, bb, vc, cb, A9, c9, A10, c10, Y, p3) _ ⟨HD.out.x0, HD.out.x1, hYN, HYn.out, HY.out, HSJ.out, HD.out, ⟨HDC.out, HGP.out.1, HGP.out.2⟩⟩)
         ·skip
          refine box_step ?hb9 (N := 7) ?hd9 (cs := #[.slice none 0 0, .slice none 0 0]) (t := 26) ?hr9 ?_; (case hd9 => rfl); (case hb9 => rfl); (case hr9 => first|(go_simp; done)|(go_simp; rfl))
          intro Y hYe wq hy hby
          have HY := Aside0.mk hy
          have hYN : V.heap.size ≤ Y := by rw [hYe]; exact HD.out.le
          have HYn : Aside0 (Y ≠ X ∧ Y ≠ T ∧ Y ≠ rb) := ⟨by rw [hYe]; exact HD.out.fresh⟩
          replace HN2 := Aside0.mk (Kd.R_below HN2.out hby)
          replace HD := Aside0.mk (HD.out.below hby)
          clear hy hYe hby
          refine hK.out _ _ ⟨HD.out.x0, HD.out.x1⟩ (fun hHeld => ?_)
          clear hK K
          refine norm_ (a' := ?_) ?_ ?_
          rotate_left
          ·show Act.put _ (some 7) _ = _
           simp only [Act.put, setIfInBounds_toArray, set_cons_zero, set_cons_succ, i64_w]
           rfl
          refine one_ (i := 7) (N := some 37) #[true, true, true, true, true, true, true, true, false, false, false, true, false, false] rfl rfl (one_of HT_.out (by kernel_rfl)) (by decide) (fun K hK => ?_)
          refine goes_ Tryz.func7 (by kernel_rfl) rfl #[.agg #[u, v], vc] (by rfl) rfl rfl (by simp only [List.map_toArray, List.map_cons, List.map_nil]; rfl) ?_
          with_reducible refine (spec_SpineIn u v vc ls f cb _ HD.out.sp.s (Sl.of_R HN2.out) HSB.out HCL.out).mono ?_
          rintro e wq ⟨a, b, rfl, hr9, hb9⟩
          refine ⟨_, rfl, ?_⟩
          obtain ⟨A9, c9, e9⟩ := Kd.R_slice hr9.1
          subst e9
          obtain ⟨A10, c10, e9⟩ := Kd.R_slice hr9.2
          subst e9
          have HSJ := Aside0.mk (SpT.lower (hr9) HD.out.le)
          replace HY := Aside0.mk (blk_below HY.out hb9)
          replace HD := Aside0.mk (HD.out.below hb9)
          clear hr9 hb9
          refine hK.out _ _ ⟨HD.out.x0, HD.out.x1⟩ (fun hHeld => ?_)
          clear hK K
          refine norm_ (a' := ?_) ?_ ?_
          rotate_left
          ·show Act.put _ (some 37) _ = _
           simp only [Act.put, setIfInBounds_toArray, set_cons_zero, set_cons_succ, i64_w]
           rfl
          refine pure_ (i := 8) (N := some 29) (v := ?_) (a' := ?_) #[true, true, true, true, true, true, true, true, true, false, false, true, false, false] rfl rfl (any_of HT_.out (by kernel_rfl)) (fun _ _ _ h => h) (Or.inl ⟨by rfl, ?_⟩) ?_ ?_
          rotate_left; (intro w'; go_simp; with_reducible rfl); rotate_left; (simp only [Act.put, setIfInBounds_toArray, set_cons_zero, set_cons_succ, i64_w]; rfl)
          refine pure_ (i := 9) (N := some 38) (v := ?_) (a' := ?_) #[true, true, true, true, true, true, true, true, true, true, false, true, false, false] rfl rfl (any_of HT_.out (by kernel_rfl)) (fun _ _ _ h => h) (Or.inl ⟨by rfl, ?_⟩) ?_ ?_
          rotate_left; (intro w'; go_simp; with_reducible rfl); rotate_left; (simp only [Act.put, setIfInBounds_toArray, set_cons_zero, set_cons_succ, i64_w]; rfl)
          refine pure_ (i := 10) (N := some 39) (v := ?_) (a' := ?_) #[true, true, true, true, true, true, true, true, true, true, true, true, false, false] rfl rfl (any_of HT_.out (by kernel_rfl)) (fun _ _ _ h => h) (Or.inl ⟨by rfl, ?_⟩) ?_ ?_
          rotate_left; (intro w'; go_simp; with_reducible rfl); rotate_left; (simp only [Act.put, setIfInBounds_toArray, set_cons_zero, set_cons_succ, i64_w]; rfl)
          exact norm_ (by simp only [Go.Proofs.YtkdendlgaaimbaaGreatW.PrintLast.putAll, Act.put, List.setIfInBounds_toArray, List.set_cons_zero, List.set_cons_succ]) (hCont (vb, bb, vc, cb, A9, c9, A10, c10, Y, p3) _ ⟨HD.out.x0, HD.out.x1, hYN, HYn.out, HY.out, HSJ.out, HD.out, ⟨HDC.out, HGP.out.1, HGP.out.2⟩⟩)
        ·skip
         refine box_step ?hb9 (N := 7) ?hd9 (cs := #[.slice none 0 0, .slice none 0 0]) (t := 26) ?hr9 ?_; (case hd9 => rfl); (case hb9 => rfl); (case hr9 => first|(go_simp; done)|(go_simp; rfl))
         intro Y hYe wq hy hby
         have HY := Aside0.mk hy
         have hYN : V.heap.size ≤ Y := by rw [hYe]; exact HD.out.le
         have HYn : Aside0 (Y ≠ X ∧ Y ≠ T ∧ Y ≠ rb) := ⟨by rw [hYe]; exact HD.out.fresh⟩
         replace HN := Aside0.mk (Kd.R_below HN.out hby)
         replace HD := Aside0.mk (HD.out.below hby)
         clear hy hYe hby
         refine hK.out _ _ ⟨HD.out.x0, HD.out.x1⟩ (fun hHeld => ?_)
         clear hK K
         refine norm_ (a' := ?_) ?_ ?_
         rotate_left
         ·show Act.put _ (some 7) _ = _
          simp only [Act.put, setIfInBounds_toArray, set_cons_zero, set_cons_succ, i64_w]
          rfl
         refine one_ (i := 6) (N := some 36) #[true, true, true, true, true, true, true, false, false, false, false, true, false, false] rfl rfl (one_of HT_.out (by kernel_rfl)) (by decide) (fun K hK => ?_)
         refine goes_ Tryz.func28 (by kernel_rfl) rfl #[.pointer (some ⟨rb, 0, none⟩), vb, v] (by rfl) rfl rfl (by simp only [List.map_toArray, List.map_cons, List.map_nil]; rfl) ?_
         with_reducible refine (spec_l71Behind hS HD.out.rd (HQ.out _ g1) vb v bb f HN.out HD.out.sv HDB.out (by decide) HFL.out).mono ?_
         rintro e wq ⟨vc, cb, rfl, hr3, hd3, p3, g2, g3, hrd, hg⟩
         refine ⟨_, rfl, ?_⟩
         have HN2 := Aside0.mk hr3
         have HDC := Aside0.mk hd3
         have HCL := Aside0.mk (Nat.le_trans hd3.2.1 (by decide) : cb.length ≤ 1048576)
         have HGP := Aside0.mk (pp_two g0 g1 g2 g3 (by decide))
         replace HY := Aside0.mk (blk_grown HY.out hg (fun e => HYn.out.2.2 (Option.some.inj e)))
         replace HD := Aside0.mk (HD.out.pick hrd hg HFx.out)
         clear hr3 hd3 hrd hg HN HDB
         refine hK.out _ _ ⟨HD.out.x0, HD.out.x1⟩ (fun hHeld => ?_)
         clear hK K
         refine norm_ (a' := ?_) ?_ ?_
         rotate_left
         ·show Act.put _ (some 36) _ = _
          simp only [Act.put, setIfInBounds_toArray, set_cons_zero, set_cons_succ, i64_w]
          rfl
         refine one_ (i := 7) (N := some 37) #[true, true, true, true, true, true, true, true, false, false, false, true, false, false] rfl rfl (one_of HT_.out (by kernel_rfl)) (by decide) (fun K hK => ?_)
         refine goes_ Tryz.func7 (by kernel_rfl) rfl #[.agg #[u, v], vc] (by rfl) rfl rfl (by simp only [List.map_toArray, List.map_cons, List.map_nil]; rfl) ?_
         with_reducible refine (spec_SpineIn u v vc ls f cb _ HD.out.sp.s (Sl.of_R HN2.out) HSB.out HCL.out).mono ?_
         rintro e wq ⟨a, b, rfl, hr9, hb9⟩
         refine ⟨_, rfl, ?_⟩
         obtain ⟨A9, c9, e9⟩ := Kd.R_slice hr9.1
         subst e9
         obtain ⟨A10, c10, e9⟩ := Kd.R_slice hr9.2
         subst e9
         have HSJ := Aside0.mk (SpT.lower (hr9) HD.out.le)
         replace HY := Aside0.mk (blk_below HY.out hb9)
         replace HD := Aside0.mk (HD.out.below hb9)
         clear hr9 hb9
         refine hK.out _ _ ⟨HD.out.x0, HD.out.x1⟩ (fun hHeld => ?_)
         clear hK K
         refine norm_ (a' := ?_) ?_ ?_
         rotate_left
         ·show Act.put _ (some 37) _ = _
          simp only [Act.put, setIfInBounds_toArray, set_cons_zero, set_cons_succ, i64_w]
          rfl
         refine pure_ (i := 8) (N := some 29) (v := ?_) (a' := ?_) #[true, true, true, true, true, true, true, true, true, false, false, true, false, false] rfl rfl (any_of HT_.out (by kernel_rfl)) (fun _ _ _ h => h) (Or.inl ⟨by rfl, ?_⟩) ?_ ?_
         rotate_left; (intro w'; go_simp; with_reducible rfl); rotate_left; (simp only [Act.put, setIfInBounds_toArray, set_cons_zero, set_cons_succ, i64_w]; rfl)
         refine pure_ (i := 9) (N := some 38) (v := ?_) (a' := ?_) #[true, true, true, true, true, true, true, true, true, true, false, true, false, false] rfl rfl (any_of HT_.out (by kernel_rfl)) (fun _ _ _ h => h) (Or.inl ⟨by rfl, ?_⟩) ?_ ?_
         rotate_left; (intro w'; go_simp; with_reducible rfl); rotate_left; (simp only [Act.put, setIfInBounds_toArray, set_cons_zero, set_cons_succ, i64_w]; rfl)
         refine pure_ (i := 10) (N := some 39) (v := ?_) (a' := ?_) #[true, true, true, true, true, true, true, true, true, true, true, true, false, false] rfl rfl (any_of HT_.out (by kernel_rfl)) (fun _ _ _ h => h) (Or.inl ⟨by rfl, ?_⟩) ?_ ?_
         rotate_left; (intro w'; go_simp; with_reducible rfl); rotate_left; (simp only [Act.put, setIfInBounds_toArray, set_cons_zero, set_cons_succ, i64_w]; rfl)
         exact norm_ (by simp only [Go.Proofs.YtkdendlgaaimbaaGreatW.PrintLast.putAll, Act.put, List.setIfInBounds_toArray, List.set_cons_zero, List.set_cons_succ]) (hCont (vb, bb, vc, cb, A9, c9, A10, c10, Y, p3) _ ⟨HD.out.x0, HD.out.x1, hYN, HYn.out, HY.out, HSJ.out, HD.out, ⟨HDC.out, HGP.out.1, HGP.out.2⟩⟩)
       ·skip
        refine box_step ?hb9 (N := 7) ?hd9 (cs := #[.slice none 0 0, .slice none 0 0]) (t := 26) ?hr9 ?_; (case hd9 => rfl); (case hb9 => rfl); (case hr9 => first|(go_simp; done)|(go_simp; rfl))
        intro Y hYe wq hy hby
        have HY := Aside0.mk hy
        have hYN : V.heap.size ≤ Y := by rw [hYe]; exact HD.out.le
        have HYn : Aside0 (Y ≠ X ∧ Y ≠ T ∧ Y ≠ rb) := ⟨by rw [hYe]; exact HD.out.fresh⟩
        replace HD := Aside0.mk (HD.out.below hby)
        clear hy hYe hby
        refine hK.out _ _ ⟨HD.out.x0, HD.out.x1⟩ (fun hHeld => ?_)
        clear hK K
        refine norm_ (a' := ?_) ?_ ?_
        rotate_left
        ·show Act.put _ (some 7) _ = _
         simp only [Act.put, setIfInBounds_toArray, set_cons_zero, set_cons_succ, i64_w]
         rfl
        refine one_ (i := 3) (N := some 33) #[true, true, true, true, true, true, false, false, false, false, false, true, false, false] rfl rfl (one_of HT_.out (by kernel_rfl)) (by decide) (fun K hK => ?_)
        refine goes_ Tryz.func29 (by kernel_rfl) rfl #[.pointer (some ⟨rb, 0, none⟩), .int .i64 3] (by rfl) rfl rfl (by simp only [List.map_toArray, List.map_cons, List.map_nil]; rfl) ?_
        with_reducible refine (CB.out _ _ HD.out.rd HQ6.out).mono ?_
        rintro e wq ⟨vb, bb, rfl, hr2, hd2, p2, g0, g1, hrd, hg⟩
        refine ⟨_, rfl, ?_⟩
        have HN := Aside0.mk hr2
        have HDB := Aside0.mk hd2
        replace HY := Aside0.mk (blk_grown HY.out hg (fun e => HYn.out.2.2 (Option.some.inj e)))
        replace HD := Aside0.mk (HD.out.pick hrd hg HFx.out)
        clear hr2 hd2 hrd hg
        refine hK.out _ _ ⟨HD.out.x0, HD.out.x1⟩ (fun hHeld => ?_)
        clear hK K
        refine norm_ (a' := ?_) ?_ ?_
        rotate_left
        ·show Act.put _ (some 33) _ = _
         simp only [Act.put, setIfInBounds_toArray, set_cons_zero, set_cons_succ, i64_w]
         rfl
        refine one_ (i := 6) (N := some 36) #[true, true, true, true, true, true, true, false, false, false, false, true, false, false] rfl rfl (one_of HT_.out (by kernel_rfl)) (by decide) (fun K hK => ?_)
        refine goes_ Tryz.func28 (by kernel_rfl) rfl #[.pointer (some ⟨rb, 0, none⟩), vb, v] (by rfl) rfl rfl (by simp only [List.map_toArray, List.map_cons, List.map_nil]; rfl) ?_
        with_reducible refine (spec_l71Behind hS HD.out.rd (HQ.out _ g1) vb v bb f HN.out HD.out.sv HDB.out (by decide) HFL.out).mono ?_
        rintro e wq ⟨vc, cb, rfl, hr3, hd3, p3, g2, g3, hrd, hg⟩
        refine ⟨_, rfl, ?_⟩
        have HN2 := Aside0.mk hr3
        have HDC := Aside0.mk hd3
        have HCL := Aside0.mk (Nat.le_trans hd3.2.1 (by decide) : cb.length ≤ 1048576)
        have HGP := Aside0.mk (pp_two g0 g1 g2 g3 (by decide))
        replace HY := Aside0.mk (blk_grown HY.out hg (fun e => HYn.out.2.2 (Option.some.inj e)))
        replace HD := Aside0.mk (HD.out.pick hrd hg HFx.out)
        clear hr3 hd3 hrd hg HN HDB
        refine hK.out _ _ ⟨HD.out.x0, HD.out.x1⟩ (fun hHeld => ?_)
        clear hK K
        refine norm_ (a' := ?_) ?_ ?_
        rotate_left
        ·show Act.put _ (some 36) _ = _
         simp only [Act.put, setIfInBounds_toArray, set_cons_zero, set_cons_succ, i64_w]
         rfl
        refine one_ (i := 7) (N := some 37) #[true, true, true, true, true, true, true, true, false, false, false, true, false, false] rfl rfl (one_of HT_.out (by kernel_rfl)) (by decide) (fun K hK => ?_)
        refine goes_ Tryz.func7 (by kernel_rfl) rfl #[.agg #[u, v], vc] (by rfl) rfl rfl (by simp only [List.map_toArray, List.map_cons, List.map_nil]; rfl) ?_
        with_reducible refine (spec_SpineIn u v vc ls f cb _ HD.out.sp.s (Sl.of_R HN2.out) HSB.out HCL.out).mono ?_
        rintro e wq ⟨a, b, rfl, hr9, hb9⟩
        refine ⟨_, rfl, ?_⟩
        obtain ⟨A9, c9, e9⟩ := Kd.R_slice hr9.1
        subst e9
        obtain ⟨A10, c10, e9⟩ := Kd.R_slice hr9.2
        subst e9
        have HSJ := Aside0.mk (SpT.lower (hr9) HD.out.le)
        replace HY := Aside0.mk (blk_below HY.out hb9)
        replace HD := Aside0.mk (HD.out.below hb9)
        clear hr9 hb9
        refine hK.out _ _ ⟨HD.out.x0, HD.out.x1⟩ (fun hHeld => ?_)
        clear hK K
        refine norm_ (a' := ?_) ?_ ?_
        rotate_left
        ·show Act.put _ (some 37) _ = _
         simp only [Act.put, setIfInBounds_toArray, set_cons_zero, set_cons_succ, i64_w]
         rfl
        refine pure_ (i := 8) (N := some 29) (v := ?_) (a' := ?_) #[true, true, true, true, true, true, true, true, true, false, false, true, false, false] rfl rfl (any_of HT_.out (by kernel_rfl)) (fun _ _ _ h => h) (Or.inl ⟨by rfl, ?_⟩) ?_ ?_
        rotate_left; (intro w'; go_simp; with_reducible rfl); rotate_left; (simp only [Act.put, setIfInBounds_toArray, set_cons_zero, set_cons_succ, i64_w]; rfl)
        refine pure_ (i := 9) (N := some 38) (v := ?_) (a' := ?_) #[true, true, true, true, true, true, true, true, true, true, false, true, false, false] rfl rfl (any_of HT_.out (by kernel_rfl)) (fun _ _ _ h => h) (Or.inl ⟨by rfl, ?_⟩) ?_ ?_
        rotate_left; (intro w'; go_simp; with_reducible rfl); rotate_left; (simp only [Act.put, setIfInBounds_toArray, set_cons_zero, set_cons_succ, i64_w]; rfl)
        refine pure_ (i := 10) (N := some 39) (v := ?_) (a' := ?_) #[true, true, true, true, true, true, true, true, true, true, true, true, false, false] rfl rfl (any_of HT_.out (by kernel_rfl)) (fun _ _ _ h => h) (Or.inl ⟨by rfl, ?_⟩) ?_ ?_
        rotate_left; (intro w'; go_simp; with_reducible rfl); rotate_left; (simp only [Act.put, setIfInBounds_toArray, set_cons_zero, set_cons_succ, i64_w]; rfl)
        exact norm_ (by simp only [Go.Proofs.YtkdendlgaaimbaaGreatW.PrintLast.putAll, Act.put, List.setIfInBounds_toArray, List.set_cons_zero, List.set_cons_succ]) (hCont (vb, bb, vc, cb, A9, c9, A10, c10, Y, p3) _ ⟨HD.out.x0, HD.out.x1, hYN, HYn.out, HY.out, HSJ.out, HD.out, ⟨HDC.out, HGP.out.1, HGP.out.2⟩⟩)
      rintro ⟨vb, bb, vc, cb, A9, c9, A10, c10, Y, p2⟩ wc ⟨C0, C1, hYV, hYn, hy, hsj, hds, hG⟩
      dsimp only at hYV hYn hy hsj hds hG
      have HYn := Aside0.mk hYn
      have HG := Aside0.mk hG
      have HY := Aside0.mk hy
      have HSJ := Aside0.mk hsj
      replace HD := Aside0.mk hds
      have y0 := blk_cell hy 0
      have y1 := blk_cell hy 1
      have yf0 := blk_frozen hy 0
      have yf1 := blk_frozen hy 1
      clear hy hsj hds hYn hG
      have hHeld : wc.cell? ⟨X, 0, none⟩ = some u ∧ wc.cell? ⟨X, 1, none⟩ = some v := ⟨C0, C1⟩
      refine norm_ (a' := ?_) ?_ ?_
      rotate_left
      ·simp only [Go.Proofs.YtkdendlgaaimbaaGreatW.PrintLast.putAll, Act.put, List.setIfInBounds_toArray, List.set_cons_zero, List.set_cons_succ]
       rfl
      refine last_ (i := 12) (N := none) #[true, true, true, true, true, true, true, true, true, true, true, true, true, false] rfl rfl (one_of HT_.out (by kernel_rfl)) (by decide) (fun K hK => ?_)
      refine skip_ (w1 := ?_) (by rfl) rfl ?_ ?_
      rotate_left
      ·go_simp
       rfl
      refine hK.out _ _ ?_
      clear hK K
      refine pure_ (i := 13) (N := some 8) (v := ?_) (a' := ?_) #[true, true, true, true, true, true, true, true, true, true, true, true, true, true] rfl rfl (any_of HT_.out (by kernel_rfl)) (fun _ _ _ h => h) (Or.inl ⟨by rfl, ?_⟩) ?_ ?_
      rotate_left; (intro w'; go_simp; with_reducible rfl); rotate_left; (simp only [Act.put, setIfInBounds_toArray, set_cons_zero, set_cons_succ, i64_w]; rfl)
      refine done_ (done_of HT_.out (by kernel_rfl)) ?_
      have hds := DS.set2 HD.out HY.out HYn.out hYV HFx.out (.slice A9 (inL ls f cb).length c9) (.slice A10 (inF ls f cb).length c10)
      have hsj := SpT.set2 HSJ.out HY.out (.slice A9 (inL ls f cb).length c9) (.slice A10 (inF ls f cb).length c10)
      have hyb := blk2 HY.out (.slice A9 (inL ls f cb).length c9) (.slice A10 (inF ls f cb).length c10)
      obtain ⟨wd, hwd⟩ : ∃ wd, wd = (wc.setCell ⟨Y, 0, none⟩ (.slice A9 (inL ls f cb).length c9)).setCell ⟨Y, 1, none⟩ (.slice A10 (inF ls f cb).length c10) := ⟨_, rfl⟩
      rw [← hwd] at hds hsj hyb ⊢
      have HI := Aside0.mk (fun h : inB ls f cb = true => in_F HM.out MB.out HG.out.1.2.2 hf6 h)
      generalize inL ls f cb = L at hsj HI hyb ⊢
      generalize inF ls f cb = F at hsj HI hyb ⊢
      generalize inB ls f cb = B at HI ⊢
      replace HD := Aside0.mk hds
      replace HSJ := Aside0.mk hsj
      replace HY := Aside0.mk hyb
      clear hds hsj hyb hwd hHeld C0 C1 y0 y1 yf0 yf1 HT_ HW_
      clear hHeld
      have HP2 := Aside0.mk HG.out.2
      cases B
      ·go_wp2
       go_roundw
       case rel => exact ⟨k + 1, u, v, ls, f, p2, by omega, by go_num, hf6, by have := HP2.out; omega, by have := HP2.out; omega, ⟨HM.out.mono (by omega)⟩, HD⟩
       case measure => simp [intOf]; omega
      ·have y0 := blk_cell HY.out 0
       have y1 := blk_cell HY.out 1
       have x0 := HD.out.x0
       have x1 := HD.out.x1
       have xf0 := blk_fz HD.out.xb 0
       have xf1 := blk_fz HD.out.xb 1
       obtain ⟨i1, i2, i3⟩ := HI.out rfl
       go_wp2
       go_roundw
       case rel => exact ⟨k + 1, .slice A9 L.length c9, .slice A10 F.length c10, L, F, p2, by omega, by go_num, i3, by have := HP2.out; omega, by have := HP2.out; omega, ⟨i1.mono (by omega)⟩, ⟨HD.out.put HSJ.out HFx.out⟩⟩
       case measure => simp [intOf]; omega
     ·go_wp2
      go_meet
      case rel => exact ⟨_, v, ls, f, pp + 1, by omega, by omega, HM240, HD⟩
    ·have hl6z : ¬ (ls.length : Int) < 6 := by omega
     go_upto_if 26 with (go_at_call 27; ((with_reducible refine (spec_pick hS.out HD.out.rd (by omega) 3 (by omega) (by omega)).mono ?_); rintro e w' ⟨t, rfl, t0, t1, hr, hg⟩; replace HD := Aside0.mk (HD.out.pick hr hg HFx.out); replace x0 := HD.out.x0; clear hr hg; rcases tzero t with htb | htb))
     ·go_wp2
      go_meet
      case rel => exact ⟨_, v, ls, f, pp + 1, by omega, by omega, HM240, HD⟩
     ·go_wp2
      go_meet
      case rel => exact ⟨_, v, ls, f, pp + 1, by omega, by omega, HM240, HD⟩
   ·have hltz : ¬ (k : Int) < 8 := by omega
    go_wp2
    go_meet
    case rel => exact ⟨_, v, ls, f, pp, by omega, by omega, HM240, HD⟩
 case rest =>
  clear HD HM
  obtain ⟨u, v, ls, f, p2, hp0, hp1, HM, HD⟩ := hcut
  go_at_K
  have HFL := Aside0.mk (Nat.le_trans HM.out.fl (show 70 ≤ 100000 by decide))
  obtain ⟨A7, c7, e7⟩ := Kd.R_slice HD.out.sp.1
  subst e7
  obtain ⟨A8, c8, e8⟩ := Kd.R_slice HD.out.sp.2
  subst e8
  go_upto_if 46 with (first
   | (go_at_call 29; ((with_reducible refine (CB5.out _ _ HD.out.rd (by omega)).mono ?_); rintro e wa1 ⟨vb, bb, rfl, hr2, hd2, p3, g0, g1, hrd, hg⟩; have HN := Aside0.mk hr2; have HDB := Aside0.mk hd2; have hbl5 := hd2.2.1; replace HD := Aside0.mk (HD.out.pick hrd hg HFx.out); clear hr2 hd2 hrd hg))
   | (go_at_call 27; ((with_reducible refine (spec_pick hS.out HD.out.rd (by omega) 4 (by omega) (by omega)).mono ?_); rintro e wa2 ⟨t, rfl, t0, t1, hr, hg⟩; replace HN := Aside0.mk (R_rd HN.out HD.out.rd hg (by decide)); replace HD := Aside0.mk (HD.out.pick hr hg HFx.out); clear hr hg)))
  have x0 := HD.out.x0
  have x1 := HD.out.x1
  cases hgt : decide (0 < t)
  ·have t0 := blk_cell HD.out.tb 0
   have t1 := blk_cell HD.out.tb 1
   have tf0 := blk_fz HD.out.tb 0
   have tf1 := blk_fz HD.out.tb 1
   go_wp2
   refine bodyPost_ret (results_ct rfl _ _ T 26 #[.slice A7 ls.length c7, .slice A8 f.length c8] (0, 0) _ rfl (blk2 HD.out.tb _ _) Tryz.underlying26 rfl (by kernel_rfl)) rfl ?_
   exact ⟨_, _, _, ls, f, bb, rfl, SpT.s (SpT.set2 HD.out.sp HD.out.tb _ _), Sl.of_R (Rset2 HN.out HD.out.tb (by decide) _ _), HM.out.mono (by decide), hbl5, below_set (below_set (HUN.out _ HD.out.rd.bel) HTw.out) HTw.out⟩
  ·go_wp2_with (go_at_call 28; ((with_reducible refine (spec_l71Behind hS HD.out.rd (by omega) vb (.slice A8 f.length c8) bb f HN.out HD.out.sv HDB.out (by decide) HFL.out).mono ?_); rintro e wa3 ⟨vc, cb, rfl, hr3, hd3, p4, g2, g3, hrd, hg⟩; have HN2 := Aside0.mk hr3; have hcl5 := hd3.2.1; replace HD := Aside0.mk (HD.out.pick hrd hg HFx.out); have z0 := HD.out.x0; have z1 := HD.out.x1; have t0 := blk_cell HD.out.tb 0; have t1 := blk_cell HD.out.tb 1; have tf0 := blk_fz HD.out.tb 0; have tf1 := blk_fz HD.out.tb 1; clear hr3 hd3 hrd hg))
   refine bodyPost_ret (results_ct rfl _ _ T 26 #[.slice A7 ls.length c7, .slice A8 f.length c8] (0, 0) _ rfl (blk2 HD.out.tb _ _) Tryz.underlying26 rfl (by kernel_rfl)) rfl ?_
   exact ⟨_, _, _, ls, f, cb, rfl, SpT.s (SpT.set2 HD.out.sp HD.out.tb _ _), Sl.of_R (Rset2 HN2.out HD.out.tb (by decide) _ _), HM.out.mono (by decide), hcl5, below_set (below_set (HUN.out _ HD.out.rd.bel) HTw.out) HTw.out⟩
end Go.Proofs.YtkdendlgaaimbaaGreat.X
