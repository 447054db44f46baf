/- Conditions: none. -/
import Derived.Test.YtkdendlgaaimbaaYNSpI
import Derived.Test.YtkdendlgaaimbaaYNFrT
import Derived.RegionTactic
import Derived.BigRegion
namespace Go.Proofs.Ytkdendlgaaimbaa.X
open Go.RowKit Go.Proofs.YtkdendlgaaimbaaW.PrintWords Go.Proofs.YtkdendlgaaimbaaW.PrintLast
open List (setIfInBounds_toArray set_cons_zero set_cons_succ)
set_option linter.unusedVariables false
set_option linter.unusedSimpArgs false
theorem R_rd {α : Type} {d : Kd α} {e base : Nat} {ok : Nat → Prop} {w0 W W' : World} {rb : Nat} {s : List Int} {p : Int} {v : Value} {xs : List α} (h : d.R e W base ok v xs) (hr : Rd w0 rb s p W) (hg : W.grownBy W' (some rb)) (hne : (e :: d.E).contains 145 = false) : d.R e W' base ok v xs := by
 obtain ⟨A, c, hb, _⟩ := hr.blk
 exact Kd.R_mono (R_pick (offT h hb hne) hg (fun q hq => hq.2)) (fun q hq => hq.1)
theorem f3_snoc {l out : List Rw} {k : Nat} {x y : Rw} (h : out.map (·.f3) = (l.take k).map (·.f3)) (hx : l[k]? = some x) (hy : y.f3 = x.f3) : (out ++ [y]).map (·.f3) = (l.take (k + 1)).map (·.f3) := by
 rw [take_snoc hx, List.map_append, List.map_append, h]
 simp [hy]
def tmAt (f : List Tm) (i : Nat) : Tm := f.getD i ⟨0, 0⟩
theorem cellsTmE {w : World} {ad : Addr} {xs : List Tm} (h : kTm.C w (some ad) xs.length xs) : (∀ i, i < xs.length → w.cell? (ad.add (i * 2)) = some (.int .i64 (tmAt xs i).f0)) ∧ (∀ i, i < xs.length → w.cell? ⟨(ad.add (i * 2)).block, (ad.add (i * 2)).off + 1, none⟩ = some (.int .i64 (tmAt xs i).f1)) := by
 have H : ∀ i, i < xs.length → w.cell? (ad.add (i * 2)) = some (.int .i64 (tmAt xs i).f0) ∧ w.cell? ⟨(ad.add (i * 2)).block, (ad.add (i * 2)).off + 1, none⟩ = some (.int .i64 (tmAt xs i).f1) := fun i hi => by
  obtain ⟨a, x, e, hx, h0, h1⟩ := rdTm h (Below.refl _ _) hi
  cases e
  have ex : tmAt xs i = x := by unfold tmAt; rw [List.getD_eq_getElem?_getD, hx.out]; rfl
  rw [ex]
  exact ⟨h0, h1⟩
 exact ⟨fun i hi => (H i hi).1, fun i hi => (H i hi).2⟩
set_option maxRecDepth 100000 in
set_option maxHeartbeats 1000000 in
theorem spec_l2FitR (v : Value) (l : List Rw) (w : World) (base : Nat) (h0 : base ≤ w.heap.size) (h : kRw.R 102 w base okT v l) : Calls Try.prog 95 #[v] w fun e w' => ∃ u, e = .returned u ∧ kRw.R 102 w' base okT u (fit l) ∧ Below w.heap.size w w' := by
 have HO := Aside0.mk h
 have hs := Sl.of_R h
 have HS := Aside0.mk hs
 clear h
 obtain ⟨A, c_, rfl, HC, hr⟩ := hs
 have hm := Kd.C_max hr
 have HR := Aside0.mk hr
 clear hr
 cases hbo : batchOk l
 ·
  have HB := Aside0.mk (Below.refl w.heap.size w)
  go_enter Try.func95, Try.ntmps95
  go_wp2_with (go_at_call 82; refine (spec_BatchOk _ l _ HS.out).mono ?_; rintro e w' ⟨rfl, hb⟩; replace HB := Aside0.mk hb)
  go_ret
  exact ⟨_, rfl, by unfold fit; rw [hbo]; exact R_none (e := 102) (ok := okT) (blk_new _ _) (Nat.le_trans h0 HB.out.size) trivial, below_alloc HB.out _⟩
 ·
  have HB := Aside0.mk (Below.refl w.heap.size w)
  go_enter Try.func95, Try.ntmps95
  go_wp2_with (go_at_call 82; refine (spec_BatchOk _ l _ HS.out).mono ?_; rintro e w' ⟨rfl, hb⟩; replace HB := Aside0.mk hb)
  go_ret
  exact ⟨_, rfl, by unfold fit; rw [hbo]; exact Kd.R_below HO.out HB.out, HB.out⟩
set_option maxRecDepth 100000 in
set_option maxHeartbeats 2000000 in
theorem spec_BatchOfR (v : Value) (l : List Rw) (w : World) (h : Sl kRw w v l) : Calls Try.prog 128 #[v] w (RetR kRw 102 w (batchOf l)) := by
 have HS := Aside0.mk h
 obtain ⟨A, c_, rfl, HC, hr⟩ := h
 have hm := Kd.C_max hr
 have HR := Aside0.mk hr
 clear hr
 cases hs : rowsOk l
 ·have HB := Aside0.mk (Below.refl w.heap.size w)
  go_enter Try.func128, Try.ntmps128
  go_wp2_with (go_at_call 135; ((with_reducible refine (spec_RowsOk _ l _ (HS.out.below HB.out)).mono ?_); rintro e wb ⟨rfl, hb⟩; replace HB := Aside0.mk (bthen HB.out hb); clear hb))
  go_ret
  exact RetR.mk (by rw [batchOf, hs]; exact R_none (e := 102) (ok := okT) (blk_new wb _) HB.out.size trivial) (below_alloc HB.out _)
 ·obtain ⟨a1, a2⟩ := rowsOk_all hs
  clear a2
  have HB := Aside0.mk (Below.refl w.heap.size w)
  go_enter Try.func128, Try.ntmps128
  go_wp2_with (first
   | (go_at_call 135; ((with_reducible refine (spec_RowsOk _ l _ (HS.out.below HB.out)).mono ?_); rintro e w' ⟨rfl, hb⟩; replace HB := Aside0.mk (bthen HB.out hb); clear hb))
   | (go_at_call 96; ((with_reducible refine (spec_l2Sum _ l _ (HS.out.below HB.out) (by omega)).mono ?_); rintro e w' ⟨u, rfl, hr, hb⟩; have HF := Aside0.mk (Kd.R_lower hr HB.out.size); replace HB := Aside0.mk (bthen HB.out hb); clear hr hb))
   | (go_at_call 95; ((with_reducible refine (spec_l2FitR _ (sum l) _ w.heap.size HB.out.size HF.out).mono ?_); rintro e w' ⟨u2, rfl, hr, hb⟩; have HF2 := Aside0.mk hr; replace HB := Aside0.mk (bthen HB.out hb); clear hr hb)))
  go_ret
  exact RetR.mk (by rw [batchOf, hs]; exact HF2.out) HB.out
def BatD (n : Nat) (b : List Rw) : Prop := batchOk b = true ∧ b.length ≤ n ∧ mass b ≤ 3 * (n : Int)
theorem BatD.nil (n : Nat) : BatD n [] := ⟨rfl, Nat.zero_le _, by show (0 : Int) ≤ _; omega⟩
theorem batD_of {l : List Rw} {n : Nat} (hn : l.length ≤ n) (hm : mass l ≤ 3 * (n : Int)) (h100 : n ≤ 1000) : BatD n (batchOf l) := by
 unfold batchOf
 split
 ·unfold fit
  split
  ·rename_i h2
   exact ⟨h2, Nat.le_trans (sum_len l) hn, Int.le_trans (sum_mass (by omega)) hm⟩
  ·exact BatD.nil n
 ·exact BatD.nil n
theorem mass_f3 {l m : List Rw} (h : l.map (·.f3) = m.map (·.f3)) : mass l = mass m := by
 have e : ∀ z : List Rw, mass z = sg (fun x : Int => (x.natAbs : Int)) (z.map (·.f3)) := fun z => (sg_map (fun x : Int => (x.natAbs : Int)) (fun r : Rw => r.f3) z).symm
 rw [e, e, h]
def BatP (w0 : World) (rb : Nat) (s : List Int) (p : Int) (W : World) (n : Nat) (d : Int) (e : Ending) (W' : World) : Prop := ∃ (v : Value) (b : List Rw), e = .returned v ∧ kRw.R 102 W' W.heap.size okT v b ∧ BatD n b ∧ Adv w0 rb s p d W W'
theorem small_mass {l : List Rw} {n : Nat} (h : ∀ r ∈ l, small r) (hn : l.length ≤ n) : mass l ≤ 3 * (n : Int) := by
 have := mass_le (c := 3) (l := l) (fun r hr => by have := h r hr; unfold small at this; omega)
 omega
set_option maxRecDepth 100000 in
set_option maxHeartbeats 2000000 in
theorem spec_l71Batch {w0 W : World} {rb : Nat} {s : List Int} {p : Int} (hS : Aside0 (RS s)) (h : Rd w0 rb s p W) (hp : p ≤ 600000) (most : Nat) (hm : most ≤ 100) :
  Calls Try.prog 71 #[.pointer (some ⟨rb, 0, none⟩), .int .i64 most] W (BatP w0 rb s p W most (10 * most + 1)) := by
 have hbl := h.lt
 have C1 := spec_l71Rows hS h hp most hm
 clear h
 go_enter Try.func71, Try.ntmps71
 go_wp2_with (first
  | (go_at_call 127; ((with_reducible refine C1.mono ?_); rintro e wa ⟨v1, l1, rfl, hr1, hsm, hl1, p1, g0, g1, hrd, hg⟩; have HS1 := Aside0.mk (Sl.of_R hr1); have HR1 := Aside0.mk hrd; have HV1 := Aside0.mk hg; have HD := Aside0.mk (batD_of hl1 (small_mass hsm hl1) (by omega)); clear hr1 hsm hrd hg))
  | (go_at_call 128; ((with_reducible refine (spec_BatchOfR v1 l1 wa HS1.out).mono ?_); rintro e wb ⟨v2, rfl, hr2, hb⟩; have HF := Aside0.mk (Kd.R_lower hr2 HV1.out.size); have HR2 := Aside0.mk (HR1.out.below hb); have HV2 := Aside0.mk (grownBy_after HV1.out hb); clear hr2 hb)))
 go_ret
 exact ⟨_, batchOf l1, rfl, HF.out, HD.out, p1, g0, g1, HR2.out, HV2.out⟩
def tb_spec_l71Behind_7.T : Bool × List (List Nat × List Nat) := (true, [([], []), ([0], [0]), ([], []), ([], []), ([], []), ([4], [4]), ([3, 5], [3, 5]), ([2, 6], [2, 6]), ([7], [7]), ([1, 8, 6], [1, 8]), ([0, 1, 2, 3, 4, 5, 6, 7, 8, 9], []), ([10, 9, 9, 0, 1, 2, 3, 4, 5, 6, 7, 8, 9], [9, 10])])
def tb_spec_l71Behind_7.B : List Nat := [0, 1, 0, 0, 0, 16, 56, 124, 252, 511, 1023, 2047]
theorem tb_spec_l71Behind_7.tab : rtab .any (opsOf Try.f70 7) = tb_spec_l71Behind_7.T := by kernel_rfl
theorem tb_spec_l71Behind_7.bits : waitsOk tb_spec_l71Behind_7.T.2 tb_spec_l71Behind_7.B = true := by kernel_rfl
set_option maxRecDepth 100000 in
set_option maxHeartbeats 4000000 in
theorem spec_l71Behind {w0 W : World} {rb : Nat} {s : List Int} {p : Int} (hS : Aside0 (RS s)) (h : Rd w0 rb s p W) (hp : p ≤ 800000) (v v2 : Value) (l : List Rw) (f : List Tm) {B1 B2 n : Nat} (hl : kRw.R 102 W B1 okT v l) (hf : kTm.R 43 W B2 okT v2 f) (hb : BatD n l) (hn : n ≤ 100) (hfl : f.length ≤ 100000) :
  Calls Try.prog 70 #[.pointer (some ⟨rb, 0, none⟩), v, v2] W (BatP w0 rb s p W n n) := by
 have hbl := h.lt
 have hge := h.ge
 have hbs := h.bel.size
 have hnn := h.nn
 have hln := hb.2.1
 have HD := Aside0.mk hb
 have HL := Aside0.mk hl
 have HF := Aside0.mk hf
 have HR0 := Aside0.mk h
 have HR := Aside0.mk (h.alloc (.cells #[] 102))
 have HV := Aside0.mk (alloc_grown W (.cells #[] 102) (some rb))
 have HO : Aside0 (kRw.R 102 (W.alloc (.cells #[] 102)) W.heap.size okT (.slice (some ⟨W.heap.size, 0, none⟩) 0 0) []) := ⟨R_none (blk_new W _) (Nat.le_refl _) trivial⟩
 obtain ⟨A, c, rfl⟩ := Kd.R_slice hl
 obtain ⟨A2, c2, rfl⟩ := Kd.R_slice hf
 clear h hb hl hf
 go_enter Try.func70, Try.ntmps70
 go_wp2
 go_loopw [7, 8] (fun o i wr => ∃ (k : Nat) (out : List Rw) (p' : Int), k ≤ l.length ∧ i = .int .i64 k ∧ p ≤ p' ∧ p' ≤ p + k ∧ Aside0 (out.map (·.f3) = (l.take k).map (·.f3)) ∧ Aside0 (kRw.R 102 wr W.heap.size okT o out) ∧ Aside0 (Rd w0 rb s p' wr) ∧ Aside0 (W.grownBy wr (some rb))) (fun _ i _ => l.length - (intOf i).toNat)
 case atStart => exact ⟨0, [], p, Nat.zero_le _, rfl, Int.le_refl _, by omega, ⟨rfl⟩, HO, HR, HV⟩
 case round =>
  clear HO HR HV
  obtain ⟨k, out, p', hk, rfl, hp0, hp1, HA, HO, HR, HV⟩ := hrel
  have hWs := HV.out.size
  have hol : out.length ≤ 100 := by
   have := congrArg List.length HA.out
   rw [List.length_map, List.length_map, List.length_take] at this
   omega
  by_cases hlt : k < l.length
  ·obtain ⟨ad, x, e, HX, h0, h1, h2, h3, h4⟩ := rdRw (Kd.R_reads' (R_rd HL.out HR0.out HV.out (by decide))).2.2 (Below.refl _ _) (k := k) hlt
   cases e
   go_upto_region 6 with fail
   refine name_world fun W1 hW => ?_
   have B0 : W1.heap[wr.heap.size]? = some (.cells #[.int .i64 x.f0, .int .i64 x.f1, .int .i64 x.f2.f0, .int .i64 x.f2.f1, .int .i64 x.f3] 102 (0, 0)) := by rw [hW]; exact blk_new wr _
   have hb1 : Below wr.heap.size wr W1 := by rw [hW]; repeat (first | exact Below.refl _ _ | apply below_alloc | refine below_set ?_ (by simp))
   clear hW
   generalize hY : wr.heap.size = Y at B0 ⊢
   have hYl : W.heap.size ≤ Y := by omega
   have hrY : rb ≠ Y := by omega
   replace HO := Aside0.mk (R_new (ok' := fun q => q ≠ Y) HO.out (X := Y) (by omega) (fun q h1 h2 => by omega))
   replace HO := Aside0.mk (Kd.R_below HO.out hb1)
   replace HR := Aside0.mk (HR.out.below hb1)
   replace HV := Aside0.mk (grownBy_after HV.out hb1)
   have HY := Aside0.mk B0
   have HF1 := Aside0.mk (R_rd HF.out HR0.out HV.out (by decide))
   clear B0 hY hb1 h0 h1 h2 h3 h4 hWs
   by_cases hf0 : 0 < f.length
   ·have hfz : (f.length : Int) > 0 := by omega
    cases hfo : frontOk f
    ·go_upto_region 8 with (go_at_call 87; ((with_reducible refine (spec_FrontOk _ f _ (Sl.of_R HF1.out)).mono ?_); rintro e w2 ⟨rfl, hb⟩; replace HO := Aside0.mk (Kd.R_below HO.out hb); replace HR := Aside0.mk (HR.out.below hb); replace HV := Aside0.mk (grownBy_after HV.out hb); replace HY := Aside0.mk (blk_below HY.out hb); replace HF1 := Aside0.mk (Kd.R_below HF1.out hb); clear hb))
     have hYw := blk_lt HY.out
     have hWz := HV.out.size
     have y0 := blk_cell HY.out 0
     have y1 := blk_cell HY.out 1
     have y2 := blk_cell HY.out 2
     have y3 := blk_cell HY.out 3
     have y4 := blk_cell HY.out 4
     go_wp2_with (at_builtin; refine appRw (w0 := w2) (base := W.heap.size) (xs := out) (ok := fun q => q ≠ Y) rfl rfl rfl HO.out (fun q hq => by omega) (Below.refl _ _) (by omega) (by omega) ?_; intro v1 w1 hr1 hb1 hg1 ha1; have HO5 := Aside0.mk hr1; have HR5 := Aside0.mk (HR.out.belowB hb1 hbl); have HV5 := Aside0.mk (gthenB HV.out hb1); clear hr1 hb1 hg1 ha1)
     go_roundw
     case rel => exact ⟨k + 1, out ++ [⟨x.f0, x.f1, x.f2, x.f3⟩], p', by omega, by go_num, by omega, by omega, ⟨f3_snoc HA.out HX.out rfl⟩, ⟨Kd.R_mono HO5.out (fun _ _ => trivial)⟩, HR5, HV5⟩
     case measure => simp [intOf]; omega
    ·go_upto_region 7 with (go_at_call 87; ((with_reducible refine (spec_FrontOk _ f _ (Sl.of_R HF1.out)).mono ?_); rintro e w2 ⟨rfl, hb⟩; replace HO := Aside0.mk (Kd.R_below HO.out hb); replace HR := Aside0.mk (HR.out.below hb); replace HV := Aside0.mk (grownBy_after HV.out hb); replace HY := Aside0.mk (blk_below HY.out hb); replace HF1 := Aside0.mk (Kd.R_below HF1.out hb); clear hb))
     have hYw := blk_lt HY.out
     have HRd := Aside0.mk (HR.out.below (below_drew (Below.refl _ _)))
     have HFd := Aside0.mk (R_drew HF1.out)
     have HOd := Aside0.mk (R_drew HO.out)
     have HYd : Aside0 (w2.drew.heap[Y]? = some (.cells #[.int .i64 x.f0, .int .i64 x.f1, .int .i64 x.f2.f0, .int .i64 x.f2.f1, .int .i64 x.f3] 102 (0, 0))) := HY
     have HVd := Aside0.mk (grownBy_after HV.out (below_drew (Below.refl _ _)))
     obtain ⟨ad2, _, e2, _, _, _⟩ := rdTm (Kd.R_reads' HFd.out).2.2 (Below.refl _ _) (k := 0) hf0
     cases e2
     have HC := fun W' (hh : kTm.R 43 W' B2 okT (.slice (some ad2) f.length c2) f) => cellsTmE (Kd.R_reads' hh).2.2
     have HTJ := fun (z : Tm) W' => spec_TimeJoin x.f2.f0 x.f2.f1 z.f0 z.f1 W'
     refine start_ (n := 12) (S := fun w' => w'.cell? ⟨Y, 2, none⟩ = some (.int .i64 x.f2.f0) ∧ w'.cell? ⟨Y, 3, none⟩ = some (.int .i64 x.f2.f1) ∧ (∀ i, i < f.length → w'.cell? (ad2.add (i * 2)) = some (.int .i64 (tmAt f i).f0)) ∧ (∀ i, i < f.length → w'.cell? ⟨(ad2.add (i * 2)).block, (ad2.add (i * 2)).off + 1, none⟩ = some (.int .i64 (tmAt f i).f1))) (ds := [11]) #[false, false, false, false, false, false, false, false, false, false, false, false] (by kernel_rfl) rfl rfl ⟨blk_cell HYd.out 2, blk_cell HYd.out 3, (HC _ HFd.out).1, (HC _ HFd.out).2⟩ (fun hHeld => ?_)
     refine with_tabW tb_spec_l71Behind_7.tab tb_spec_l71Behind_7.bits (fun HT_ HW_ => ?_)
     refine pure_ (i := 0) (N := some 28) (v := ?_) (a' := ?_) #[true, false, false, false, false, false, false, false, false, false, false, false] rfl rfl (any_of HT_.out (by kernel_rfl)) (fun _ _ _ h => h) (Or.inl ⟨by rfl, ?_⟩) ?_ ?_
     rotate_left
     ·intro w'
      go_simp
      with_reducible rfl
     rotate_left
     ·simp only [Act.put, setIfInBounds_toArray, set_cons_zero, set_cons_succ, i64_w]
      rfl
     refine pure_ (i := 2) (N := some 30) (v := ?_) (a' := ?_) #[true, false, true, false, false, false, false, false, false, false, false, false] rfl rfl (any_of HT_.out (by kernel_rfl)) (fun _ _ _ h => h) (Or.inl ⟨by rfl, ?_⟩) ?_ ?_
     rotate_left
     ·intro w'
      go_simp
      with_reducible rfl
     rotate_left
     ·simp only [Act.put, setIfInBounds_toArray, set_cons_zero, set_cons_succ, i64_w]
      rfl
     refine pure_ (i := 3) (N := some 31) (v := ?_) (a' := ?_) #[true, false, true, true, false, false, false, false, false, false, false, false] rfl rfl (any_of HT_.out (by kernel_rfl)) (fun _ _ _ h => h) (Or.inl ⟨by rfl, ?_⟩) ?_ ?_
     rotate_left
     ·intro w'
      go_simp
      with_reducible rfl
     rotate_left
     ·simp only [Act.put, setIfInBounds_toArray, set_cons_zero, set_cons_succ, i64_w]
      rfl
     refine pure_ (i := 4) (N := some 32) (v := ?_) (a' := ?_) #[true, false, true, true, true, false, false, false, false, false, false, false] rfl rfl (any_of HT_.out (by kernel_rfl)) (fun _ _ _ h => h) (Or.inl ⟨by rfl, ?_⟩) ?_ ?_
     rotate_left
     ·intro w'
      go_simp
      with_reducible rfl
     rotate_left
     ·simp only [Act.put, setIfInBounds_toArray, set_cons_zero, set_cons_succ, i64_w]
      rfl
     refine pure_ (i := 5) (N := some 33) (v := ?_) (a' := ?_) #[true, false, true, true, true, true, false, false, false, false, false, false] rfl rfl (any_of HT_.out (by kernel_rfl)) (fun _ _ _ h => h) (Or.inl ⟨by rfl, ?_⟩) ?_ ?_
     rotate_left
     ·intro w'
      go_simp
      with_reducible rfl
     rotate_left
     ·simp only [Act.put, setIfInBounds_toArray, set_cons_zero, set_cons_succ, i64_w]
      rfl
     refine take_ (i := 1) (N := some 29) (v := ?_) (a' := ?_) #[true, true, true, true, true, true, false, false, false, false, false, false] rfl rfl (take_ofW HT_.out HW_.out (by kernel_rfl)) (fun _ _ _ h => h) (Or.inl ⟨by rfl, ?_⟩) hHeld ?_ ?_
     rotate_left
     ·rintro w' ⟨s0, s1, s2, s3⟩
      go_simp
      with_reducible rfl
     rotate_left
     ·simp only [Act.put, setIfInBounds_toArray, set_cons_zero, set_cons_succ, i64_w]
      rfl
     refine one_ (i := 6) (N := some 34) #[true, true, true, true, true, true, true, false, false, false, false, false] rfl rfl (one_of HT_.out (by kernel_rfl)) (by decide) (fun K hK => ?_)
     refine goes_ Try.func69 (by kernel_rfl) rfl #[.pointer (some ⟨rb, 0, none⟩), .int .i64 f.length] (by rfl) rfl rfl (by simp only [List.map_toArray, List.map_cons, List.map_nil]; rfl) ?_
     with_reducible refine (spec_pick hS.out HRd.out (by omega) (f.length : Int) (by omega) (by omega)).mono ?_
     rintro e w3 ⟨j, rfl, j0, j1, hr, hg⟩
     refine ⟨_, rfl, ?_⟩
     obtain ⟨m, rfl⟩ := Int.eq_ofNat_of_zero_le j0
     have jm : m < f.length := by omega
     have HY3 := Aside0.mk (blk_grown HYd.out hg (by intro e; have := Option.some.inj e; omega))
     have HO3 := Aside0.mk (R_rd HOd.out HRd.out hg (by decide))
     have HF3 := Aside0.mk (R_rd HFd.out HRd.out hg (by decide))
     have HR3 := Aside0.mk hr
     have HV3 := Aside0.mk (gthen HVd.out hg)
     clear hr hg
     refine hK.out _ _ ⟨blk_cell HY3.out 2, blk_cell HY3.out 3, (HC _ HF3.out).1, (HC _ HF3.out).2⟩ (fun hHeld => ?_)
     clear hK K
     refine norm_ (a' := ?_) ?_ ?_
     rotate_left
     ·show Act.put _ (some 34) _ = _
      simp only [Act.put, setIfInBounds_toArray, set_cons_zero, set_cons_succ, i64_w]
      rfl
     refine pure_ (i := 7) (N := some 35) (v := ?_) (a' := ?_) #[true, true, true, true, true, true, true, true, false, false, false, false] rfl rfl (any_of HT_.out (by kernel_rfl)) (fun _ _ _ h => h) (Or.inl ⟨by rfl, ?_⟩) ?_ ?_
     rotate_left
     ·intro w'
      go_simp
      with_reducible rfl
     rotate_left
     ·simp only [Act.put, setIfInBounds_toArray, set_cons_zero, set_cons_succ, i64_w]
      rfl
     refine take_ (i := 8) (N := some 36) (v := ?_) (a' := ?_) #[true, true, true, true, true, true, true, true, true, false, false, false] rfl rfl (take_ofW HT_.out HW_.out (by kernel_rfl)) (fun _ _ _ h => h) (Or.inl ⟨by rfl, ?_⟩) hHeld ?_ ?_
     rotate_left
     ·rintro w' ⟨s0, s1, s2, s3⟩
      go_simp
      with_reducible rfl
     rotate_left
     ·simp only [Act.put, setIfInBounds_toArray, set_cons_zero, set_cons_succ, i64_w]
      rfl
     refine one_ (i := 9) (N := some 37) #[true, true, true, true, true, true, true, true, true, true, false, false] rfl rfl (one_of HT_.out (by kernel_rfl)) (by decide) (fun K hK => ?_)
     refine goes_ Try.func89 (by kernel_rfl) rfl #[.agg #[.int .i64 x.f2.f0, .int .i64 x.f2.f1], .agg #[.int .i64 (tmAt f m).f0, .int .i64 (tmAt f m).f1]] (by rfl) rfl rfl (by simp only [List.map_toArray, List.map_cons, List.map_nil]; rfl) ?_
     with_reducible refine (HTJ (tmAt f m) w3).mono ?_
     rintro e w4 ⟨rfl, hb⟩
     refine ⟨_, rfl, ?_⟩
     have HY4 := Aside0.mk (blk_below HY3.out hb)
     have fz2 := blk_fz HY4.out 2
     have fz3 := blk_fz HY4.out 3
     have HO4 := Aside0.mk (Kd.R_below HO3.out hb)
     have HF4 := Aside0.mk (Kd.R_below HF3.out hb)
     have HR4 := Aside0.mk (HR3.out.below hb)
     have HV4 := Aside0.mk (grownBy_after HV3.out hb)
     clear hb
     refine hK.out _ _ ⟨blk_cell HY4.out 2, blk_cell HY4.out 3, (HC _ HF4.out).1, (HC _ HF4.out).2⟩ (fun hHeld => ?_)
     clear hK K
     refine norm_ (a' := ?_) ?_ ?_
     rotate_left
     ·show Act.put _ (some 37) _ = _
      simp only [Act.put, setIfInBounds_toArray, set_cons_zero, set_cons_succ, i64_w]
      rfl
     refine pure_ (i := 10) (N := some 38) (v := ?_) (a' := ?_) #[true, true, true, true, true, true, true, true, true, true, true, false] rfl rfl (any_of HT_.out (by kernel_rfl)) (fun _ _ _ h => h) (Or.inl ⟨by rfl, ?_⟩) ?_ ?_
     rotate_left
     ·intro w'
      go_simp
      with_reducible rfl
     rotate_left
     ·simp only [Act.put, setIfInBounds_toArray, set_cons_zero, set_cons_succ, i64_w]
      rfl
     refine last_ (i := 11) (N := none) #[true, true, true, true, true, true, true, true, true, true, true, true] rfl rfl (one_of HT_.out (by kernel_rfl)) (by decide) (fun K hK => ?_)
     refine skip_ (w1 := ?_) (by rfl) rfl ?_ ?_
     rotate_left
     ·go_simp
      rfl
     refine hK.out _ _ ?_
     clear hK K
     refine done_ (done_of HT_.out (by kernel_rfl)) ?_
     have hw0Y : w0.heap.size ≤ Y := Nat.le_trans hbs hYl
     generalize tJoin _ _ = z
     obtain ⟨wz, hwz⟩ : ∃ wz, wz = (w4.setCell ⟨Y, 2, none⟩ (.int .i64 z.f0)).setCell ⟨Y, 3, none⟩ (.int .i64 z.f1) := ⟨_, rfl⟩
     rw [← hwz]
     replace HY : Aside0 (wz.heap[Y]? = some (.cells #[.int .i64 x.f0, .int .i64 x.f1, .int .i64 z.f0, .int .i64 z.f1, .int .i64 x.f3] 102 (0, 0))) := ⟨by rw [hwz]; simpa using blk_set (blk_set HY4.out 2 (.int .i64 z.f0)) 3 (.int .i64 z.f1)⟩
     replace HO : Aside0 (kRw.R 102 wz W.heap.size (fun q => q ≠ Y) _ out) := ⟨by rw [hwz]; exact Kd.R_far (Kd.R_far HO4.out (p := ⟨Y, 2, none⟩) (fun q hq => hq) _) (p := ⟨Y, 3, none⟩) (fun q hq => hq) _⟩
     replace HR : Aside0 (Rd w0 rb s (p' + 1) wz) := ⟨by rw [hwz]; exact (HR4.out.far (a := ⟨Y, 2, none⟩) hrY hw0Y _).far (a := ⟨Y, 3, none⟩) hrY hw0Y _⟩
     replace HV : Aside0 (W.grownBy wz (some rb)) := ⟨by rw [hwz]; exact set_grownX (a := ⟨Y, 3, none⟩) hYl (set_grownX (a := ⟨Y, 2, none⟩) hYl HV4.out _) _⟩
     clear hwz HC HTJ HT_ HW_ HY3 HO3 HF3 HR3 HV3 HY4 HO4 HF4 HR4 HV4 HRd HFd HOd HYd HVd hYw hHeld
     clear hHeld
     have hYw := blk_lt HY.out
     have hWz := HV.out.size
     have y0 := blk_cell HY.out 0
     have y1 := blk_cell HY.out 1
     have y2 := blk_cell HY.out 2
     have y3 := blk_cell HY.out 3
     have y4 := blk_cell HY.out 4
     go_wp2_with (at_builtin; refine appRw (w0 := wz) (base := W.heap.size) (xs := out) (ok := fun q => q ≠ Y) rfl rfl rfl HO.out (fun q hq => by omega) (Below.refl _ _) (by omega) (by omega) ?_; intro v1 w1 hr1 hb1 hg1 ha1; have HO5 := Aside0.mk hr1; have HR5 := Aside0.mk (HR.out.belowB hb1 hbl); have HV5 := Aside0.mk (gthenB HV.out hb1); clear hr1 hb1 hg1 ha1)
     go_roundw
     case rel => exact ⟨k + 1, out ++ [⟨x.f0, x.f1, z, x.f3⟩], p' + 1, by omega, by go_num, by omega, by omega, ⟨f3_snoc HA.out HX.out rfl⟩, ⟨Kd.R_mono HO5.out (fun _ _ => trivial)⟩, HR5, HV5⟩
     case measure => simp [intOf]; omega
   ·have hfz : ¬ (f.length : Int) > 0 := by omega
    go_upto_region 8 with fail
    have hYw := blk_lt HY.out
    have hWz := HV.out.size
    have y0 := blk_cell HY.out 0
    have y1 := blk_cell HY.out 1
    have y2 := blk_cell HY.out 2
    have y3 := blk_cell HY.out 3
    have y4 := blk_cell HY.out 4
    go_wp2_with (at_builtin; refine appRw (w0 := W1) (base := W.heap.size) (xs := out) (ok := fun q => q ≠ Y) rfl rfl rfl HO.out (fun q hq => by omega) (Below.refl _ _) (by omega) (by omega) ?_; intro v1 w1 hr1 hb1 hg1 ha1; have HO5 := Aside0.mk hr1; have HR5 := Aside0.mk (HR.out.belowB hb1 hbl); have HV5 := Aside0.mk (gthenB HV.out hb1); clear hr1 hb1 hg1 ha1)
    go_roundw
    case rel => exact ⟨k + 1, out ++ [⟨x.f0, x.f1, x.f2, x.f3⟩], p', by omega, by go_num, by omega, by omega, ⟨f3_snoc HA.out HX.out rfl⟩, ⟨Kd.R_mono HO5.out (fun _ _ => trivial)⟩, HR5, HV5⟩
    case measure => simp [intOf]; omega
  ·obtain rfl : k = l.length := by omega
   go_wp2_with (go_at_call 128; ((with_reducible refine (spec_BatchOfR _ out _ (Sl.of_R HO.out)).mono ?_); rintro e wb ⟨v2, rfl, hr2, hb⟩; have HF2 := Aside0.mk (Kd.R_lower hr2 hWs); have HR2 := Aside0.mk (HR.out.below hb); have HV2 := Aside0.mk (grownBy_after HV.out hb); clear hr2 hb))
   go_ret
   have hmm := HA.out
   rw [List.take_length] at hmm
   have hlo := congrArg List.length hmm
   rw [List.length_map, List.length_map] at hlo
   exact ⟨_, batchOf out, rfl, HF2.out, batD_of (by omega) (by rw [mass_f3 hmm]; exact HD.out.2.2) (by omega), p', hp0, by omega, HR2.out, HV2.out⟩
end Go.Proofs.Ytkdendlgaaimbaa.X
