/- Conditions: none. -/
import Derived.Test.YtkdendlgaaimbaaYNSpH
import Derived.Test.YtkdendlgaaimbaaYNLb
import Derived.Test.YtkdendlgaaimbaaYNSb
import Derived.Test.YtkdendlgaaimbaaYNPlH
import Derived.RegionTactic
import Derived.BigRegion
namespace Go.Proofs.Ytkdendlgaaimbaa.X
open Go.RowKit Go.Proofs.YtkdendlgaaimbaaW.PrintWords Go.Proofs.YtkdendlgaaimbaaW.PrintLast
open List (setIfInBounds_toArray set_cons_zero set_cons_succ)
set_option linter.unusedVariables false
set_option linter.unusedSimpArgs false
section
variable {ops : Array Oper} {o : Oper} {a : Act} {Q : Exit → Act → World → Prop} {Kc : Act → World → Prop}
theorem stepRows {W : World} {base : Nat} {s x : Operand} {xs ys : List Rw} {ok : Nat → Prop} {A : Option Addr} {c : Nat} (hw : Region.wanted o (yielded ops a.tmps) = true)
  (ho : o.op = .call { callee := .builtin .append, args := #[s, x], argTypes := #[27, 27] })
  (hx : a.eval x = .slice A ys.length c) (HO : kRw.R 102 W base ok (a.eval s) xs) (HR : Sl kRw W (.slice A ys.length c) ys) (hfresh : ∀ k, W.heap.size ≤ k → ok k) (hbase : base ≤ W.heap.size) (hl : xs.length + ys.length < 3518437208000)
  (h : ∀ v1 w1, kRw.R 102 w1 base ok v1 (xs ++ ys) → Below base W w1 → W.grownBy w1 (a.eval s).ownBlock → Kc (a.put o.dst v1) w1) :
  if Region.wanted o (yielded ops a.tmps) = true then Oper.wp Try.prog o a W Kc Q else Kc (a.put o.dst undef) W := by
 obtain ⟨A', c', e, _, hC⟩ := HR
 injection e with e1 e2 e3
 subst e1
 exact Kd.R_append_rows_step kRw (w0 := W) base hw s x 27 102 (.agg #[.int .i64 0, .int .i64 0, .int .i64 0, .int .i64 0, .int .i64 0]) 40 ho Try.underlying27 infoRw rfl (by decide) (by omega) _ xs ys A ys.length c ok (fun _ => False) rfl hx HO hC (fun _ _ hk => kRw_M.2 (kRw_K.1 hk)) (fun _ hk => hk.elim) hfresh (Below.refl _ _) hbase (by omega) (fun v1 w1 h1 h2 h3 _ => h v1 w1 h1 h2 h3)
end
theorem segRT {W : World} {base e g n cap : Nat} {ok : Nat → Prop} {k : Nat} {xs : List Rw} {x0 : Rw} (t : Tm) (HO : kRw.R e W base ok (.slice (some ⟨g, 0, none⟩) n cap) xs) (hx0 : xs[k]? = some x0) (hi : k < n) :
  kRw.R e (W.setCells g (k * 5 + 2) [.int .i64 t.f0, .int .i64 t.f1]) base ok (.slice (some ⟨g, 0, none⟩) n cap) (xs.set k { x0 with f2 := t }) ∧ W.grownBy (W.setCells g (k * 5 + 2) [.int .i64 t.f0, .int .i64 t.f1]) (some g) := by
 have hl : k < xs.length := (List.getElem?_eq_some_iff.1 hx0).1
 obtain ⟨c, hcl, hM, hcc, _⟩ := Kd.R_elem HO x0 (k : Int) (by omega) (by omega)
 have e0 : xs.getD k x0 = x0 := by simp [List.getD, hx0]
 rw [Int.toNat_natCast, e0] at hM
 have ec := kRw_M.1 hM
 subst ec
 have := Kd.R_seg HO (k : Int) (by omega) (by omega) (c := vRw x0) (seg := [.int .i64 t.f0, .int .i64 t.f1]) (j := 2) (x' := { x0 with f2 := t }) (okp := fun _ => False) hcl (by simpa using hcc) (by show 2 + 2 ≤ 5; omega) (kRw_M.2 rfl) (fun _ hk => hk.elim)
 rw [Int.toNat_natCast] at this
 exact this
theorem set2 (W : World) (g o : Nat) (u0 u1 : Value) : W.setCells g o [u0, u1] = (W.setCell ⟨g, o, none⟩ u0).setCell ⟨g, o + 1, none⟩ u1 := rfl
theorem rdLay {w : World} {A : Option Addr} {m : Nat} {ls : List (List Rw)} (h : Kd.C (Kd.slice 102 kRw) w A m ls) {k : Nat} (hk : k < m) : ∃ ad B c, A = some ad ∧ w.cell? (ad.add k) = some (.slice B (lay ls k).length c) ∧ Sl kRw w (.slice B (lay ls k).length c) (lay ls k) := by
 obtain ⟨ad, c, e, _, hK, hc0⟩ := Kd.C_get h ([] : List Rw) (k : Int) (by omega) (by omega)
 rw [Int.toNat_natCast] at hK hc0
 have hc : ∀ j u, c[j]? = some u → w.cell? (ad.add (k * 1 + j)) = some u := hc0
 obtain ⟨B, c0, rfl, l0, g0⟩ := hK
 exact ⟨ad, B, c0, e, by have hq := hc 0 _ rfl; rwa [Nat.mul_one, Nat.add_zero] at hq, B, c0, rfl, l0, g0⟩
theorem join_no {ls : List (List Rw)} {f : List Tm} {k : Int} (h : joinB ls f k = false) : joinL ls f k = [] ∧ joinF ls f k = [] := by
 unfold joinL joinF
 rw [h]
 exact ⟨rfl, rfl⟩
theorem spU_no {w w' : World} {ls : List (List Rw)} {f : List Tm} {k : Int} (h : joinB ls f k = false) (hb : Below w.heap.size w w') : SpU w (joinL ls f k) (joinF ls f k) (joinB ls f k) (.returned (.tuple #[.agg #[.slice none 0 0, .slice none 0 0], .bool false])) w' := by
 rw [h, (join_no h).1, (join_no h).2]
 exact ⟨_, _, rfl, ⟨Kd.R_nil _ _ _ _ _, Kd.R_nil _ _ _ _ _⟩, hb⟩
theorem spU_yes {w w' : World} {ls : List (List Rw)} {f : List Tm} {k : Int} {a b : Value} (h : joinB ls f k = true) (ht : SpT w' w.heap.size okT a b (joinAt ls f k.toNat) f) (hb : Below w.heap.size w w') : SpU w (joinL ls f k) (joinF ls f k) (joinB ls f k) (.returned (.tuple #[.agg #[a, b], .bool true])) w' := by
 unfold joinL joinF
 rw [if_pos h, if_pos h, h]
 exact ⟨a, b, rfl, ht, hb⟩
theorem offT {α : Type} {d : Kd α} {e ty T base : Nat} {w : World} {ok : Nat → Prop} {v : Value} {xs : List α} {cs : Array Value} (h : d.R e w base ok v xs) (ht : w.heap[T]? = some (.cells cs ty (0, 0))) (hne : (e :: d.E).contains ty = false) : d.R e w base (fun q => ok q ∧ q ≠ T) v xs :=
 Kd.R_mono (Kd.R_bound h) (fun q hq => ⟨hq.1, fun he => by
  obtain ⟨_, _, _, t2, hm, cells, hc⟩ := hq
  rw [he, ht] at hc
  have e2 : ty = t2 := by injection hc with hc; injection hc
  rw [← e2] at hm
  have := List.elem_iff.2 hm
  rw [show List.elem ty (e :: d.E) = false from hne] at this
  cases this⟩)
def tb_spec_SpineJoin_4.T : Bool × List (List Nat × List Nat) := (true, [([], []), ([], []), ([1], [1]), ([], []), ([2, 3], [2, 3]), ([4], [4]), ([0, 5], [0, 5]), ([], []), ([7], [7]), ([], []), ([9], [9]), ([8, 10], [8, 10]), ([11], [11]), ([6, 12, 6], [6, 12]), ([13, 13], [13]), ([14, 14, 0, 1, 2, 3, 4, 5, 6, 7, 8, 9, 10, 11, 12, 13, 14], [14])])
def tb_spec_SpineJoin_4.B : List Nat := [0, 0, 2, 0, 14, 30, 63, 0, 128, 0, 512, 1920, 3968, 8191, 16383, 32767]
theorem tb_spec_SpineJoin_4.tab : rtab .any (opsOf Try.f39 4) = tb_spec_SpineJoin_4.T := by kernel_rfl
theorem tb_spec_SpineJoin_4.bits : waitsOk tb_spec_SpineJoin_4.T.2 tb_spec_SpineJoin_4.B = true := by kernel_rfl
def tb_spec_SpineJoin_8.T : Bool × List (List Nat × List Nat) := (true, [([], []), ([], []), ([], []), ([2], [2]), ([], []), ([], []), ([4, 5], [4, 5]), ([6], [6]), ([7], [7]), ([3, 8], [3, 8]), ([0, 1, 0, 1, 2, 3, 4, 5, 6, 7, 8, 9], [0, 1]), ([10, 0, 1, 2, 3, 4, 5, 6, 7, 8, 9], [10]), ([11, 9, 9, 0, 1, 2, 3, 4, 5, 6, 7, 8, 9], [9, 11])])
def tb_spec_SpineJoin_8.B : List Nat := [0, 0, 0, 4, 0, 0, 48, 112, 240, 508, 1023, 2047, 4095]
theorem tb_spec_SpineJoin_8.tab : rtab .any (opsOf Try.f39 8) = tb_spec_SpineJoin_8.T := by kernel_rfl
theorem tb_spec_SpineJoin_8.bits : waitsOk tb_spec_SpineJoin_8.T.2 tb_spec_SpineJoin_8.B = true := by kernel_rfl
def tb_spec_SpineJoin_12.T : Bool × List (List Nat × List Nat) := (true, [([], []), ([0], [0]), ([], []), ([], []), ([3], [3]), ([], []), ([4, 5], [4, 5]), ([2, 6], [2, 6]), ([1, 7], [1, 7]), ([], []), ([9, 8, 7, 0, 1, 2, 3, 4, 5, 6, 7, 8, 9], [8, 9])])
def tb_spec_SpineJoin_12.B : List Nat := [0, 1, 0, 0, 8, 0, 56, 124, 255, 0, 1023]
theorem tb_spec_SpineJoin_12.tab : rtab .any (opsOf Try.f39 12) = tb_spec_SpineJoin_12.T := by kernel_rfl
theorem tb_spec_SpineJoin_12.bits : waitsOk tb_spec_SpineJoin_12.T.2 tb_spec_SpineJoin_12.B = true := by kernel_rfl
def tb_spec_SpineJoin_14.T : Bool × List (List Nat × List Nat) := (true, [([], []), ([0], [0]), ([], []), ([2], [2]), ([], []), ([4], [4]), ([3, 5], [3, 5]), ([1, 6], [1, 6]), ([0, 1, 2, 3, 4, 5, 6, 7], []), ([8, 7, 7, 0, 1, 2, 3, 4, 5, 6, 7], [7, 8])])
def tb_spec_SpineJoin_14.B : List Nat := [0, 1, 0, 4, 0, 16, 60, 127, 255, 511]
theorem tb_spec_SpineJoin_14.tab : rtab .any (opsOf Try.f39 14) = tb_spec_SpineJoin_14.T := by kernel_rfl
theorem tb_spec_SpineJoin_14.bits : waitsOk tb_spec_SpineJoin_14.T.2 tb_spec_SpineJoin_14.B = true := by kernel_rfl
set_option maxRecDepth 100000 in
set_option maxHeartbeats 4000000 in
theorem spec_SpineJoin (u v : Value) (ls : List (List Rw)) (f : List Tm) (k : Int) (w : World) (h : SpS w u v ls f) (hb : SpB ls f) : Calls Try.prog 39 #[.agg #[u, v], .int .i64 k] w (SpU w (joinL ls f k) (joinF ls f k) (joinB ls f k)) := by
 have HS := Aside0.mk h
 obtain ⟨⟨A, c, rfl, hc, hr⟩, A2, c2, rfl, hc2, hr2⟩ := h
 have hm1 := Kd.C_max hr
 clear hr hr2
 have HSw := HS
 have HB := Aside0.mk (Below.refl w.heap.size w)
 go_enter Try.func39, Try.ntmps39
 go_upto_region 1 with fail
 refine name_world fun W0 hW0 => ?_
 have hb0 : Below w.heap.size w W0 := hW0 ▸ below_alloc (below_alloc (Below.refl _ _) _) _
 have K0 : W0.heap[w.heap.size]? = some (.cells #[.slice A ls.length c, .slice A2 f.length c2] 26 (0, 0)) := by rw [hW0]; exact (blk_alloc (blk_new w _) _)
 obtain ⟨T, hT⟩ : ∃ T, T = w.heap.size + 1 := ⟨_, rfl⟩
 have T0 : W0.heap[T]? = some (.cells #[.slice none 0 0, .slice none 0 0] 26 (0, 0)) := by rw [hW0, hT]; have := blk_new (w.alloc (.cells #[.slice A ls.length c, .slice A2 f.length c2] 26 (0, 0))) (.cells #[.slice none 0 0, .slice none 0 0] 26 (0, 0)); simpa using this
 have hT2 : w.heap.size ≤ T := by omega
 have hK0 : w.heap.size < W0.heap.size := blk_lt K0
 have HK := Aside0.mk K0
 have HT := Aside0.mk T0
 have hne : w.heap.size ≠ T := by omega
 try rw [← hT]
 clear hW0 hT K0 T0
 replace HB := Aside0.mk hb0
 replace HS := Aside0.mk (HS.out.below hb0)
 have HS1 : Aside0 (Sl (Kd.slice 102 kRw) W0 (.slice A ls.length c) ls) := ⟨HS.out.1⟩
 have HS2 : Aside0 (Sl kTm W0 (.slice A2 f.length c2) f) := ⟨HS.out.2⟩
 clear hb0
 have k0 := blk_cell HK.out 0
 have k1 := blk_cell HK.out 1
 cases hs : spineOk ls f
 ·have HJ := Aside0.mk (show joinB ls f k = false by unfold joinB; rw [hs]; rfl)
  go_wp2_with (go_at_call 28; ((with_reducible refine (spec_SpineOk (.slice A ls.length c) (.slice A2 f.length c2) ls f _ HS1.out HS2.out).mono ?_); rintro e w' ⟨rfl, hbb⟩; replace HT := Aside0.mk (blk_below HT.out hbb); replace HB := Aside0.mk (bthen HB.out hbb); have z0 := blk_cell HT.out 0; have z1 := blk_cell HT.out 1; have zf0 := blk_fz HT.out 0; have zf1 := blk_fz HT.out 1; clear hbb))
  refine bodyPost_ret (results_ct rfl _ _ T 26 #[.slice none 0 0, .slice none 0 0] (0, 0) _ rfl (blk2 HT.out _ _) Try.underlying26 rfl (by kernel_rfl)) rfl ?_
  exact spU_no HJ.out (below_set (below_set HB.out hT2) hT2)
 have hso := spineOk_iff.1 hs
 have hfew := hso.few
 have hw2 : wrap64 ((ls.length : Int) - 2) = (ls.length : Int) - 2 := by unfold wrap64; omega
 by_cases hk : 0 ≤ k ∧ k ≤ (ls.length : Int) - 2
 case neg =>
  have hj : joinB ls f k = false := by
   cases h : joinB ls f k
   ·rfl
   ·obtain ⟨_, ⟨g1, g2⟩, _⟩ := joinB_iff.1 h
    exact absurd ⟨g1, by omega⟩ hk
  have hq : (decide (0 ≤ k) && decide (k ≤ (ls.length : Int) - 2)) = false := by
   cases h : (decide (0 ≤ k) && decide (k ≤ (ls.length : Int) - 2))
   ·rfl
   ·simp only [Bool.and_eq_true, decide_eq_true_eq] at h; exact absurd h hk
  have HQ := Aside0.mk hq
  have HJ := Aside0.mk hj
  clear hq hk hj
  go_wp2_with (first | (go_at_call 28; ((with_reducible refine (spec_SpineOk (.slice A ls.length c) (.slice A2 f.length c2) ls f _ HS1.out HS2.out).mono ?_); rintro e w' ⟨rfl, hbb⟩; replace HT := Aside0.mk (blk_below HT.out hbb); replace HK := Aside0.mk (blk_below HK.out hbb); replace HB := Aside0.mk (bthen HB.out hbb); replace k0 := blk_cell HK.out 0; have z0 := blk_cell HT.out 0; have z1 := blk_cell HT.out 1; have zf0 := blk_fz HT.out 0; have zf1 := blk_fz HT.out 1; clear hbb)) | (go_at_call 94; ((with_reducible refine (spec_l6In k 0 ((ls.length : Int) - 2) _).mono ?_); rintro e w' ⟨rfl, rfl⟩; rw [HQ.out])))
  refine bodyPost_ret (results_ct rfl _ _ T 26 #[.slice none 0 0, .slice none 0 0] (0, 0) _ rfl (blk2 HT.out _ _) Try.underlying26 rfl (by kernel_rfl)) rfl ?_
  exact spU_no HJ.out (below_set (below_set HB.out hT2) hT2)
 have hq : (decide (0 ≤ k) && decide (k ≤ (ls.length : Int) - 2)) = true := by simp only [Bool.and_eq_true, decide_eq_true_eq]; exact hk
 have HQ := Aside0.mk hq
 clear hq
 have k0K := Nat.le_sub_of_add_le (show 0 + 0 ≤ 0 by omega)
 clear k0K
 obtain ⟨n, hn⟩ : ∃ n : Nat, k = n := ⟨k.toNat, by omega⟩
 subst hn
 have hn1 : n + 1 < ls.length := by omega
 have hnl : 0 + n < 3518437208000 := by omega
 have H15 := Aside0.mk (show ((n : Int) + 2).toNat = n + 2 by omega)
 have H14 := Aside0.mk (show n + 2 ≤ ls.length ∧ (n : Int) + 2 ≤ (ls.length : Int) ∧ (0 : Int) ≤ (n : Int) + 2 ∧ wrap64 ((n : Int) + 2) = (n : Int) + 2 ∧ n + 1 + (ls.length - (n + 2)) < 3518437208000 from ⟨hn1, by omega, by omega, by unfold wrap64; omega, by omega⟩)
 go_upto_region 4 with (first
  | (go_at_call 28; ((with_reducible refine (spec_SpineOk (.slice A ls.length c) (.slice A2 f.length c2) ls f _ HS1.out HS2.out).mono ?_); rintro e w' ⟨rfl, hbb⟩; replace HT := Aside0.mk (blk_below HT.out hbb); replace HK := Aside0.mk (blk_below HK.out hbb); replace HS := Aside0.mk (HS.out.below hbb); replace HB := Aside0.mk (bthen HB.out hbb); replace k0 := blk_cell HK.out 0; replace k1 := blk_cell HK.out 1; clear hbb))
  | (go_at_call 94; ((with_reducible refine (spec_l6In n 0 ((ls.length : Int) - 2) _).mono ?_); rintro e w' ⟨rfl, rfl⟩; rw [HQ.out]))
  | (go_at_call 84; ((with_reducible refine (spec_CopyH (.slice A ls.length c) (.slice A2 f.length c2) ls f _ HS.out hb).mono ?_); rintro e w4 ⟨xa, xb, rfl, hr, hbb⟩; have HX := Aside0.mk (SpT.lower hr HB.out.size); obtain ⟨A7, c7, rfl⟩ := Kd.R_slice hr.1; obtain ⟨A8, c8, rfl⟩ := Kd.R_slice hr.2; replace HT := Aside0.mk (blk_below HT.out hbb); replace HK := Aside0.mk (blk_below HK.out hbb); replace HB := Aside0.mk (bthen HB.out hbb); clear hr hbb k0 k1 HS1 HS2 HS)))
 refine name_world fun W1 hW1 => ?_
 have hb1 : Below w4.heap.size w4 W1 := hW1 ▸ below_alloc (Below.refl _ _) _
 obtain ⟨X, hX, hX1⟩ : ∃ X, X = w4.heap.size ∧ X < W1.heap.size := ⟨_, rfl, by rw [hW1]; simp⟩
 have HXB := Aside0.mk (show W1.heap[X]? = some (.cells #[.slice A7 ls.length c7, .slice A8 f.length c8] 26 (0, 0)) by rw [hW1, hX]; first | exact blk_new _ _ | simp)
 have hX2 : T < X := by rw [hX]; exact blk_lt HT.out
 try rw [← hX]
 replace HT := Aside0.mk (blk_below HT.out hb1)
 replace HK := Aside0.mk (blk_below HK.out hb1)
 replace HB := Aside0.mk (bthen HB.out hb1)
 replace HX := Aside0.mk (HX.out.below hb1)
 clear hW1 hX hb1
 have HB1 := HB
 have HK1 := HK
 have HT1 := HT
 have HXB1 := HXB
 have HX1 := HX
 obtain ⟨A7', c7', e7, hc7, hC7⟩ := Sl.of_Sh HX.out.1
 cases e7
 obtain ⟨ad, B0, d0, e8, L0, HL0⟩ := rdLay hC7 (show n < ls.length by omega)
 cases e8
 obtain ⟨ad', B1, d1, e9, L1, HL1⟩ := rdLay hC7 (show n + 1 < ls.length by omega)
 cases e9
 clear hC7
 have hl0 : (lay ls n).length ≤ 1048576 := hb.ls _ (lay_mem (by omega))
 have hl1 : (lay ls (n + 1)).length ≤ 1048576 := hb.ls _ (lay_mem hn1)
 have hi : ls.length ≤ 9223372036854775807 := hm1
 have X0 := blk_cell HXB.out 0
 have x0 : W1.drew.cell? ⟨X, 0, none⟩ = some (.slice (some ad) ls.length c7) := X0
 have l0 : W1.drew.cell? (ad.add n) = some (.slice B0 (lay ls n).length d0) := L0
 have l1 : W1.drew.cell? (ad.add (n + 1)) = some (.slice B1 (lay ls (n + 1)).length d1) := L1
 have i4 : n < ls.length := Nat.lt_of_succ_lt hn1
 have ew : wrap64 ((n : Int) + 1) = (n : Int) + 1 := wnext (m := ls.length) i4 (Nat.le_trans hfew (by decide))
 have i0 : (0 : Int) ≤ (n : Int) := Int.natCast_nonneg n
 have i1 : (n : Int) < (ls.length : Int) := Int.ofNat_lt.2 i4
 have i2 : (0 : Int) ≤ (n : Int) + 1 := Int.natCast_nonneg (n + 1)
 have i3 : (n : Int) + 1 < (ls.length : Int) := Int.ofNat_lt.2 hn1
 have L1' : W1.cell? ⟨ad.block, ad.off + (n + 1), none⟩ = some (.slice B1 (lay ls (n + 1)).length d1) := L1
 replace l1 : W1.drew.cell? ⟨ad.block, ad.off + (n + 1), none⟩ = some (.slice B1 (lay ls (n + 1)).length d1) := L1'
 clear L1
 have L1 := L1'
 clear L1'
 generalize hla : lay ls n = la at *
 generalize hlb : lay ls (n + 1) = lb at *
 have HL := Aside0.mk (And.intro hla hlb)
 clear hla hlb
 refine start_ (n := 16) (S := fun w' => w'.cell? ⟨X, 0, none⟩ = some (.slice (some ad) ls.length c7) ∧ w'.cell? (ad.add n) = some (.slice B0 la.length d0) ∧ w'.cell? ⟨ad.block, ad.off + (n + 1), none⟩ = some (.slice B1 lb.length d1)) (ds := []) #[false, false, false, false, false, false, false, false, false, false, false, false, false, false, false, false] (by kernel_rfl) rfl rfl ⟨x0, l0, l1⟩ (fun hHeld => ?_)
 refine with_tabW tb_spec_SpineJoin_4.tab tb_spec_SpineJoin_4.bits (fun HT_ HW_ => ?_)
 refine pure_ (i := 1) (N := some 26) (v := ?_) (a' := ?_) #[false, true, false, false, false, false, false, false, false, false, false, false, false, false, false, false] rfl rfl (any_of HT_.out (by kernel_rfl)) (fun _ _ _ h => h) (Or.inl ⟨by rfl, ?_⟩) ?_ ?_
 rotate_left
 ·intro w'
  go_simp
  with_reducible rfl
 rotate_left
 ·simp only [Act.put, setIfInBounds_toArray, set_cons_zero, set_cons_succ, i64_w]
  rfl
 refine pure_ (i := 3) (N := some 28) (v := ?_) (a' := ?_) #[false, true, false, true, false, false, false, false, false, false, false, false, false, false, false, false] rfl rfl (any_of HT_.out (by kernel_rfl)) (fun _ _ _ h => h) (Or.inl ⟨by rfl, ?_⟩) ?_ ?_
 rotate_left
 ·intro w'
  go_simp
  with_reducible rfl
 rotate_left
 ·simp only [Act.put, setIfInBounds_toArray, set_cons_zero, set_cons_succ, i64_w]
  rfl
 refine pure_ (i := 7) (N := some 32) (v := ?_) (a' := ?_) #[false, true, false, true, false, false, false, true, false, false, false, false, false, false, false, false] rfl rfl (any_of HT_.out (by kernel_rfl)) (fun _ _ _ h => h) (Or.inl ⟨by rfl, ?_⟩) ?_ ?_
 rotate_left
 ·intro w'
  go_simp
  with_reducible rfl
 rotate_left
 ·simp only [Act.put, setIfInBounds_toArray, set_cons_zero, set_cons_succ, i64_w]
  rfl
 refine pure_ (i := 9) (N := some 34) (v := ?_) (a' := ?_) #[false, true, false, true, false, false, false, true, false, true, false, false, false, false, false, false] rfl rfl (any_of HT_.out (by kernel_rfl)) (fun _ _ _ h => h) (Or.inl ⟨by rfl, ?_⟩) ?_ ?_
 rotate_left
 ·intro w'
  go_simp
  with_reducible rfl
 rotate_left
 ·simp only [Act.put, setIfInBounds_toArray, set_cons_zero, set_cons_succ, i64_w]
  rfl
 refine pure_ (i := 10) (N := some 35) (v := ?_) (a' := ?_) #[false, true, false, true, false, false, false, true, false, true, true, false, false, false, false, false] rfl rfl (any_of HT_.out (by kernel_rfl)) (fun _ _ _ h => h) (Or.inl ⟨by rfl, ?_⟩) ?_ ?_
 rotate_left
 ·intro w'
  go_simp
  with_reducible rfl
 rotate_left
 ·simp only [Act.put, setIfInBounds_toArray, set_cons_zero, set_cons_succ, i64_w]
  rfl
 refine take_ (i := 2) (N := some 27) (v := ?_) (a' := ?_) #[false, true, true, true, false, false, false, true, false, true, true, false, false, false, false, false] rfl rfl (take_ofW HT_.out HW_.out (by kernel_rfl)) (fun _ _ _ h => h) (Or.inl ⟨by rfl, ?_⟩) hHeld ?_ ?_
 rotate_left
 ·rintro w' ⟨s0, s1, s2⟩
  go_simp
  with_reducible rfl
 rotate_left
 ·simp only [Act.put, setIfInBounds_toArray, set_cons_zero, set_cons_succ, i64_w]
  rfl
 refine pure_ (i := 4) (N := some 29) (v := ?_) (a' := ?_) #[false, true, true, true, true, false, false, true, false, true, true, false, false, false, false, false] rfl rfl (any_of HT_.out (by kernel_rfl)) (fun _ _ _ h => h) (Or.inl ⟨by rfl, ?_⟩) ?_ ?_
 rotate_left
 ·intro w'
  go_simp
  with_reducible rfl
 rotate_left
 ·simp only [Act.put, setIfInBounds_toArray, set_cons_zero, set_cons_succ, i64_w]
  rfl
 refine take_ (i := 5) (N := some 30) (v := ?_) (a' := ?_) #[false, true, true, true, true, true, false, true, false, true, true, false, false, false, false, false] rfl rfl (take_ofW HT_.out HW_.out (by kernel_rfl)) (fun _ _ _ h => h) (Or.inl ⟨by rfl, ?_⟩) hHeld ?_ ?_
 rotate_left
 ·rintro w' ⟨s0, s1, s2⟩
  go_simp
  with_reducible rfl
 rotate_left
 ·simp only [Act.put, setIfInBounds_toArray, set_cons_zero, set_cons_succ, i64_w]
  rfl
 refine take_ (i := 8) (N := some 33) (v := ?_) (a' := ?_) #[false, true, true, true, true, true, false, true, true, true, true, false, false, false, false, false] rfl rfl (take_ofW HT_.out HW_.out (by kernel_rfl)) (fun _ _ _ h => h) (Or.inl ⟨by rfl, ?_⟩) hHeld ?_ ?_
 rotate_left
 ·rintro w' ⟨s0, s1, s2⟩
  go_simp
  with_reducible rfl
 rotate_left
 ·simp only [Act.put, setIfInBounds_toArray, set_cons_zero, set_cons_succ, i64_w]
  rfl
 refine pure_ (i := 11) (N := some 36) (v := ?_) (a' := ?_) #[false, true, true, true, true, true, false, true, true, true, true, true, false, false, false, false] rfl rfl (any_of HT_.out (by kernel_rfl)) (fun _ _ _ h => h) (Or.inl ⟨by rfl, ?_⟩) ?_ ?_
 rotate_left
 ·intro w'
  go_simp
  with_reducible rfl
 rotate_left
 ·simp only [Act.put, setIfInBounds_toArray, set_cons_zero, set_cons_succ, i64_w]
  rfl
 refine take_ (i := 12) (N := some 37) (v := ?_) (a' := ?_) #[false, true, true, true, true, true, false, true, true, true, true, true, true, false, false, false] rfl rfl (take_ofW HT_.out HW_.out (by kernel_rfl)) (fun _ _ _ h => h) (Or.inl ⟨by rfl, ?_⟩) hHeld ?_ ?_
 rotate_left
 ·rintro w' ⟨s0, s1, s2⟩
  go_simp
  with_reducible rfl
 rotate_left
 ·simp only [Act.put, setIfInBounds_toArray, set_cons_zero, set_cons_succ, i64_w]
  rfl
 refine one_ (i := 0) (N := some 25) #[true, true, true, true, true, true, false, true, true, true, true, true, true, false, false, false] rfl rfl (one_of HT_.out (by kernel_rfl)) (by decide) (fun K hK => ?_)
 refine Kd.R_lit_step kRw _ 102 ?hg (N := 25) ?hd (xs := ([] : List Rw)) (inner := []) (ok := okT) (okp := fun _ => True) ?hr ?hp (fun _ hk => hk) trivial (Below.refl _ _) (Nat.le_refl _) (by simp) ?_; (case hd => rfl); (case hg => rfl); (case hr => first|(go_simp; done)|(go_simp; rfl)); (case hp => exact (Reps.none _ _))
 intro v1 w1 hr1 hb1 hg1 hn1_
 have HO1 := Aside0.mk hr1
 have hbw1 : Below W1.heap.size W1 w1 := bthen (below_drew (Below.refl _ _)) hb1
 clear hr1 hb1 hg1 hn1_
 refine hK.out _ _ ⟨pw_cell_below hbw1 X0, pw_cell_below hbw1 L0, pw_cell_below hbw1 L1⟩ (fun hHeld => ?_)
 clear hK K
 refine norm_ (a' := ?_) ?_ ?_
 rotate_left
 ·show Act.put _ (some 25) _ = _
  simp only [Act.put, setIfInBounds_toArray, set_cons_zero, set_cons_succ, i64_w]
  rfl
 refine one_ (i := 6) (N := some 31) #[true, true, true, true, true, true, true, true, true, true, true, true, true, false, false, false] rfl rfl (one_of HT_.out (by kernel_rfl)) (by decide) (fun K hK => ?_)
 refine stepRows (W := w1) (base := W1.heap.size) (xs := []) (ys := la) (A := B0) (c := d0) (ok := okT) rfl rfl rfl HO1.out (HL0.below hbw1) (fun _ _ => trivial) hbw1.size (by simp; omega) ?_
 intro v2 w2 hr2 hb2 hg2
 have HO2 := Aside0.mk hr2
 have hbw2 : Below W1.heap.size W1 w2 := below_more hbw1 hb2
 clear hr2 hb2 hg2
 refine hK.out _ _ ⟨pw_cell_below hbw2 X0, pw_cell_below hbw2 L0, pw_cell_below hbw2 L1⟩ (fun hHeld => ?_)
 clear hK K
 refine norm_ (a' := ?_) ?_ ?_
 rotate_left
 ·show Act.put _ (some 31) _ = _
  simp only [Act.put, setIfInBounds_toArray, set_cons_zero, set_cons_succ, i64_w]
  rfl
 refine one_ (i := 13) (N := some 38) #[true, true, true, true, true, true, true, true, true, true, true, true, true, true, false, false] rfl rfl (one_of HT_.out (by kernel_rfl)) (by decide) (fun K hK => ?_)
 refine stepRows (W := w2) (base := W1.heap.size) (xs := [] ++ la) (ys := lb) (A := B1) (c := d1) (ok := okT) rfl rfl rfl HO2.out (HL1.below hbw2) (fun _ _ => trivial) hbw2.size (by simp; omega) ?_
 intro v3 w3 hr3 hb3 hg3
 have HO3 := Aside0.mk hr3
 have hbw3 : Below W1.heap.size W1 w3 := below_more hbw2 hb3
 clear hr3 hb3 hg3
 refine hK.out _ _ ⟨pw_cell_below hbw3 X0, pw_cell_below hbw3 L0, pw_cell_below hbw3 L1⟩ (fun hHeld => ?_)
 clear hK K
 refine norm_ (a' := ?_) ?_ ?_
 rotate_left
 ·show Act.put _ (some 38) _ = _
  simp only [Act.put, setIfInBounds_toArray, set_cons_zero, set_cons_succ, i64_w]
  rfl
 refine one_ (i := 14) (N := some 39) #[true, true, true, true, true, true, true, true, true, true, true, true, true, true, true, false] rfl rfl (one_of HT_.out (by kernel_rfl)) (by decide) (fun K hK => ?_)
 refine goes_ Try.func96 (by kernel_rfl) rfl #[v3] (by rfl) rfl rfl (by simp only [List.map_toArray, List.map_cons, List.map_nil]; rfl) ?_
 with_reducible refine (spec_l2Sum v3 ([] ++ la ++ lb) w3 (Sl.of_R HO3.out) (by simp; omega)).mono ?_
 rintro e w5 ⟨v5, rfl, hr5, hb5⟩
 refine ⟨_, rfl, ?_⟩
 have HO5 := Aside0.mk (Kd.R_lower hr5 hbw3.size)
 have hbw4 : Below W1.heap.size W1 w5 := bthen hbw3 hb5
 clear hr5 hb5
 refine hK.out _ _ ⟨pw_cell_below hbw4 X0, pw_cell_below hbw4 L0, pw_cell_below hbw4 L1⟩ (fun hHeld => ?_)
 clear hK K
 refine norm_ (a' := ?_) ?_ ?_
 rotate_left
 ·show Act.put _ (some 39) _ = _
  simp only [Act.put, setIfInBounds_toArray, set_cons_zero, set_cons_succ, i64_w]
  rfl
 refine pure_ (i := 15) (N := some 7) (v := ?_) (a' := ?_) #[true, true, true, true, true, true, true, true, true, true, true, true, true, true, true, true] rfl rfl (any_of HT_.out (by kernel_rfl)) (fun _ _ _ h => h) (Or.inl ⟨by rfl, ?_⟩) ?_ ?_
 rotate_left
 ·intro w'
  go_simp
  with_reducible rfl
 rotate_left
 ·simp only [Act.put, setIfInBounds_toArray, set_cons_zero, set_cons_succ, i64_w]
  rfl
 refine done_ (done_of HT_.out (by kernel_rfl)) ?_
 obtain ⟨o, ho⟩ : ∃ o, o = sum (la ++ lb) := ⟨_, rfl⟩
 rw [List.nil_append, ← ho] at HO5
 have HOo := Aside0.mk ho
 have hol : o.length ≤ 2097152 := by rw [ho]; exact Nat.le_trans (sum_len _) (by rw [List.length_append]; omega)
 clear ho X0 L0 L1 x0 l0 l1 HO1 HO2 HO3 hbw1 hbw2 hbw3 HL0 HL1
 replace HT := Aside0.mk (blk_below HT.out hbw4)
 replace HK := Aside0.mk (blk_below HK.out hbw4)
 replace HXB := Aside0.mk (blk_below HXB.out hbw4)
 replace HX := Aside0.mk (HX.out.below hbw4)
 replace HB := Aside0.mk (bthen HB.out hbw4)
 obtain ⟨A9, c9, rfl, hc9, hC9⟩ := Sl.of_R HO5.out
 clear hC9
 have HBW := Aside0.mk hbw4
 have HW1 := Aside0.mk (show w.heap.size ≤ W1.heap.size by omega)
 clear hbw4
 go_wp2
 go_loopw [8] (fun i wr => ∃ k : Nat, k ≤ o.length ∧ i = .int .i64 k ∧ Aside0 (kRw.R 102 wr W1.heap.size okT (.slice A9 o.length c9) ((o.take k).map (mv f) ++ o.drop k)) ∧ Aside0 (Below W1.heap.size W1 wr)) (fun i _ => o.length - (intOf i).toNat)
 case atStart => exact ⟨0, Nat.zero_le _, rfl, by simpa using HO5, HBW⟩
 case round =>
  clear HBW HO5
  obtain ⟨k, hk, rfl, HO, HBW⟩ := hrel
  by_cases hlt : k < o.length
  ·obtain ⟨g, cap, e, hg1, hg2⟩ := formR HO.out (n := o.length) (len_take (mv f) hk) (by omega)
   cases e
   obtain ⟨x, hx⟩ : ∃ x, o[k]? = some x := ⟨_, List.getElem?_eq_getElem hlt⟩
   have hgx := get_take (mv f) hx
   have HXX := Aside0.mk hx
   obtain ⟨ad2, x', e, HX', h0, h1, h2, h3, h4⟩ := rdRw (Kd.R_reads' HO.out).2.2 (Below.refl _ _) (k := k) (by rw [len_take (mv f) hk]; exact hlt)
   cases e
   have ex : x' = x := Option.some.inj (HX'.out.symm.trans hgx)
   subst ex
   have h2' : wr.cell? ⟨g, k * 5 + 2, none⟩ = some (.int .i64 x'.f2.f0) := by rw [add_plain] at h2; exact h2
   have h3' : wr.cell? ⟨g, k * 5 + 3, none⟩ = some (.int .i64 x'.f2.f1) := by rw [add_plain] at h3; exact h3
   clear h0 h1 h2 h3 h4 hx
   have htx : tOk x'.f2 = true := by
    obtain ⟨y, hy, e⟩ := sum_from x' (by rw [← HOo.out]; exact List.mem_of_getElem? HXX.out)
    rw [← (sameR_eq e).2.2]
    have hsm := fun l hl => (rowsOk_all (batchOk_rows (hso.lay l hl))).2
    rcases List.mem_append.1 hy with hy | hy
    ·exact rowOk_tm (hsm _ (lay_mem i4) y (by rw [HL.out.1]; exact hy))
    ·exact rowOk_tm (hsm _ (lay_mem hn1) y (by rw [HL.out.2]; exact hy))
   have HFr := Aside0.mk ((HSw.out.below HB1.out).2.below HBW.out)
   have kk : wr.drew.cell? ⟨w.heap.size, 1, none⟩ = some (.slice A2 f.length c2) := blk_cell (blk_below HK1.out HBW.out) 1
   have h2d : wr.drew.cell? ⟨g, k * 5 + 2, none⟩ = some (.int .i64 x'.f2.f0) := h2'
   have h3d : wr.drew.cell? ⟨g, k * 5 + 3, none⟩ = some (.int .i64 x'.f2.f1) := h3'
   go_upto_region 8 with fail
   refine start_ (n := 13) (S := fun w' => w'.cell? ⟨w.heap.size, 1, none⟩ = some (.slice A2 f.length c2) ∧ w'.cell? ⟨g, k * 5 + 2, none⟩ = some (.int .i64 x'.f2.f0) ∧ w'.cell? ⟨g, k * 5 + 3, none⟩ = some (.int .i64 x'.f2.f1)) (ds := [12]) #[false, false, false, false, false, false, false, false, false, false, false, false, false] (by kernel_rfl) rfl rfl ⟨kk, h2d, h3d⟩ (fun hHeld => ?_)
   refine with_tabW tb_spec_SpineJoin_8.tab tb_spec_SpineJoin_8.bits (fun HT_ HW_ => ?_)
   refine pure_ (i := 0) (N := some 46) (v := ?_) (a' := ?_) #[true, false, false, false, false, false, false, false, false, false, false, false, false] rfl rfl (any_of HT_.out (by kernel_rfl)) (fun _ _ _ h => h) (Or.inl ⟨by rfl, ?_⟩) ?_ ?_
   rotate_left
   ·intro w'
    go_simp
    with_reducible rfl
   rotate_left
   ·simp only [Act.put, setIfInBounds_toArray, set_cons_zero, set_cons_succ, i64_w]
    rfl
   refine pure_ (i := 1) (N := some 47) (v := ?_) (a' := ?_) #[true, true, false, false, false, false, false, false, false, false, false, false, false] rfl rfl (any_of HT_.out (by kernel_rfl)) (fun _ _ _ h => h) (Or.inl ⟨by rfl, ?_⟩) ?_ ?_
   rotate_left
   ·intro w'
    go_simp
    with_reducible rfl
   rotate_left
   ·simp only [Act.put, setIfInBounds_toArray, set_cons_zero, set_cons_succ, i64_w]
    rfl
   refine pure_ (i := 2) (N := some 48) (v := ?_) (a' := ?_) #[true, true, true, false, false, false, false, false, false, false, false, false, false] rfl rfl (any_of HT_.out (by kernel_rfl)) (fun _ _ _ h => h) (Or.inl ⟨by rfl, ?_⟩) ?_ ?_
   rotate_left
   ·intro w'
    go_simp
    with_reducible rfl
   rotate_left
   ·simp only [Act.put, setIfInBounds_toArray, set_cons_zero, set_cons_succ, i64_w]
    rfl
   refine pure_ (i := 4) (N := some 50) (v := ?_) (a' := ?_) #[true, true, true, false, true, false, false, false, false, false, false, false, false] rfl rfl (any_of HT_.out (by kernel_rfl)) (fun _ _ _ h => h) (Or.inl ⟨by rfl, ?_⟩) ?_ ?_
   rotate_left
   ·intro w'
    go_simp
    with_reducible rfl
   rotate_left
   ·simp only [Act.put, setIfInBounds_toArray, set_cons_zero, set_cons_succ, i64_w]
    rfl
   refine pure_ (i := 5) (N := some 51) (v := ?_) (a' := ?_) #[true, true, true, false, true, true, false, false, false, false, false, false, false] rfl rfl (any_of HT_.out (by kernel_rfl)) (fun _ _ _ h => h) (Or.inl ⟨by rfl, ?_⟩) ?_ ?_
   rotate_left
   ·intro w'
    go_simp
    with_reducible rfl
   rotate_left
   ·simp only [Act.put, setIfInBounds_toArray, set_cons_zero, set_cons_succ, i64_w]
    rfl
   refine pure_ (i := 6) (N := some 52) (v := ?_) (a' := ?_) #[true, true, true, false, true, true, true, false, false, false, false, false, false] rfl rfl (any_of HT_.out (by kernel_rfl)) (fun _ _ _ h => h) (Or.inl ⟨by rfl, ?_⟩) ?_ ?_
   rotate_left
   ·intro w'
    go_simp
    with_reducible rfl
   rotate_left
   ·simp only [Act.put, setIfInBounds_toArray, set_cons_zero, set_cons_succ, i64_w]
    rfl
   refine pure_ (i := 7) (N := some 53) (v := ?_) (a' := ?_) #[true, true, true, false, true, true, true, true, false, false, false, false, false] rfl rfl (any_of HT_.out (by kernel_rfl)) (fun _ _ _ h => h) (Or.inl ⟨by rfl, ?_⟩) ?_ ?_
   rotate_left
   ·intro w'
    go_simp
    with_reducible rfl
   rotate_left
   ·simp only [Act.put, setIfInBounds_toArray, set_cons_zero, set_cons_succ, i64_w]
    rfl
   refine take_ (i := 3) (N := some 49) (v := ?_) (a' := ?_) #[true, true, true, true, true, true, true, true, false, false, false, false, false] rfl rfl (take_ofW HT_.out HW_.out (by kernel_rfl)) (fun _ _ _ h => h) (Or.inl ⟨by rfl, ?_⟩) hHeld ?_ ?_
   rotate_left
   ·rintro w' ⟨s0, s1, s2⟩
    go_simp
    with_reducible rfl
   rotate_left
   ·simp only [Act.put, setIfInBounds_toArray, set_cons_zero, set_cons_succ, i64_w]
    rfl
   refine take_ (i := 8) (N := some 54) (v := ?_) (a' := ?_) #[true, true, true, true, true, true, true, true, true, false, false, false, false] rfl rfl (take_ofW HT_.out HW_.out (by kernel_rfl)) (fun _ _ _ h => h) (Or.inl ⟨by rfl, ?_⟩) hHeld ?_ ?_
   rotate_left
   ·rintro w' ⟨s0, s1, s2⟩
    go_simp
    with_reducible rfl
   rotate_left
   ·simp only [Act.put, setIfInBounds_toArray, set_cons_zero, set_cons_succ, i64_w]
    rfl
   refine one_ (i := 9) (N := some 55) #[true, true, true, true, true, true, true, true, true, true, false, false, false] rfl rfl (one_of HT_.out (by kernel_rfl)) (by decide) (fun K hK => ?_)
   refine goes_ Try.func99 (by kernel_rfl) rfl #[.slice A2 f.length c2, .agg #[.int .i64 x'.f2.f0, .int .i64 x'.f2.f1]] (by rfl) rfl rfl (by simp only [List.map_toArray, List.map_cons, List.map_nil]; rfl) ?_
   with_reducible refine (spec_MoveH (.slice A2 f.length c2) f x'.f2 wr.drew (HFr.out.below (below_drew (Below.refl _ _))) hb.f hso.front htx).mono ?_
   rintro e w6 ⟨rfl, hb6⟩
   refine ⟨_, rfl, ?_⟩
   have HO6 := Aside0.mk (Kd.R_below (w := wr.drew) (Kd.R_below HO.out (below_drew (Below.refl _ _))) hb6)
   have hbw6 : Below W1.heap.size W1 w6 := bthen (below_drew HBW.out) hb6
   have y1 := pw_cell_below hb6 kk
   have y2 := pw_cell_below hb6 h2d
   have y3 := pw_cell_below hb6 h3d
   obtain ⟨cz, _, _, _, hfz⟩ := Kd.R_elem HO6.out x' (k : Int) (Int.natCast_nonneg k) (Int.ofNat_lt.2 hlt)
   have y4 : w6.frozen? ⟨g, k * 5 + 2, none⟩ = false := by have := hfz 2; rwa [Int.toNat_natCast] at this
   have y5 : w6.frozen? ⟨g, k * 5 + 2 + 1, none⟩ = false := by have := hfz 3; rwa [Int.toNat_natCast] at this
   clear hb6 hfz
   refine hK.out _ _ ⟨y1, y2, y3⟩ (fun hHeld => ?_)
   clear hK K
   refine norm_ (a' := ?_) ?_ ?_
   rotate_left
   ·show Act.put _ (some 55) _ = _
    simp only [Act.put, setIfInBounds_toArray, set_cons_zero, set_cons_succ, i64_w]
    rfl
   refine pure_ (i := 10) (N := some 56) (v := ?_) (a' := ?_) #[true, true, true, true, true, true, true, true, true, true, true, false, false] rfl rfl (any_of HT_.out (by kernel_rfl)) (fun _ _ _ h => h) (Or.inl ⟨by rfl, ?_⟩) ?_ ?_
   rotate_left
   ·intro w'
    go_simp
    with_reducible rfl
   rotate_left
   ·simp only [Act.put, setIfInBounds_toArray, set_cons_zero, set_cons_succ, i64_w]
    rfl
   refine pure_ (i := 11) (N := some 57) (v := ?_) (a' := ?_) #[true, true, true, true, true, true, true, true, true, true, true, true, false] rfl rfl (any_of HT_.out (by kernel_rfl)) (fun _ _ _ h => h) (Or.inl ⟨by rfl, ?_⟩) ?_ ?_
   rotate_left
   ·intro w'
    go_simp
    with_reducible rfl
   rotate_left
   ·simp only [Act.put, setIfInBounds_toArray, set_cons_zero, set_cons_succ, i64_w]
    rfl
   refine last_ (i := 12) (N := none) #[true, true, true, true, true, true, true, true, true, true, true, true, true] rfl rfl (one_of HT_.out (by kernel_rfl)) (by decide) (fun K hK => ?_)
   refine skip_ (w1 := ?_) (by rfl) rfl ?_ ?_
   rotate_left
   ·go_simp
    rfl
   refine hK.out _ _ ?_
   clear hK K
   refine done_ (done_of HT_.out (by kernel_rfl)) ?_
   obtain ⟨hr7, hg7⟩ := segRT (moved f x'.f2) HO6.out hgx hlt
   rw [set2] at hr7
   have hb7 := below_set (g := g) (j := k * 5 + 2 + 1) (v := .int .i64 (moved f x'.f2).f1) (below_set (g := g) (j := k * 5 + 2) (v := .int .i64 (moved f x'.f2).f0) hbw6 hg1) hg1
   obtain ⟨w7, hw7⟩ : ∃ w7, w7 = (w6.setCell ⟨g, k * 5 + 2, none⟩ (.int .i64 (moved f x'.f2).f0)).setCell ⟨g, k * 5 + 2 + 1, none⟩ (.int .i64 (moved f x'.f2).f1) := ⟨_, rfl⟩
   rw [← hw7] at hr7 hb7 ⊢
   have HO2 := Aside0.mk hr7
   have HBW2 := Aside0.mk hb7
   clear hw7 hr7 hb7 hg7 y1 y2 y3 y4 y5 hHeld HO6 hbw6 kk h2d h3d h2' h3'
   go_wp2
   go_roundw
   case rel => exact ⟨k + 1, by omega, by go_num, ⟨by rw [← set_take (mv f) HXX.out]; exact HO2.out⟩, HBW2⟩
   case measure => simp [intOf]; omega
  ·obtain rfl : k = o.length := by omega
   rw [List.take_length, List.drop_length, List.append_nil] at HO
   have Hone : sum (o.map (mv f)) = oneL f la lb := by rw [HOo.out]; rfl
   have HOL := Aside0.mk Hone
   clear Hone
   have HTr := Aside0.mk (blk_below HT1.out HBW.out)
   have HXBr := Aside0.mk (blk_below HXB1.out HBW.out)
   have HXr := Aside0.mk (HX1.out.below HBW.out)
   have HBr := Aside0.mk (bthen HB1.out HBW.out)
   have HM := Aside0.mk (show w.heap.size ≤ W1.heap.size by have := HW1.out; omega)
   have hol2 : (oneL f la lb).length ≤ 2097152 := Nat.le_trans (oneL_len f la lb) (by omega)
   obtain ⟨one, hone⟩ : ∃ one, one = oneL f la lb := ⟨_, rfl⟩
   rw [← hone] at HOL hol2
   have HON := Aside0.mk hone
   have HJI := Aside0.mk (@joinB_iff ls f (n : Int))
   clear hone
   cases hbo : batchOk one
   ·have HJ := Aside0.mk (show joinB ls f (n : Int) = false by
     cases h : joinB ls f (n : Int)
     ·rfl
     ·obtain ⟨_, _, g3⟩ := HJI.out.1 h
      rw [Int.toNat_natCast, HL.out.1, HL.out.2, ← HON.out, hbo] at g3
      cases g3)
    go_wp2_with (first
     | (go_at_call 96; ((with_reducible refine (spec_l2Sum _ (o.map (mv f)) _ (Sl.of_R HO.out) (by rw [List.length_map]; omega)).mono ?_); rintro e w8 ⟨v8, rfl, hr8, hb8⟩; rw [HOL.out] at hr8; have HO8 := Aside0.mk (Sl.of_R hr8); replace HTr := Aside0.mk (blk_below HTr.out hb8); replace HBr := Aside0.mk (bthen HBr.out hb8); clear hr8 hb8))
     | (go_at_call 82; ((with_reducible refine (spec_BatchOk _ one _ HO8.out).mono ?_); rintro e w9 ⟨rfl, hb9⟩; replace HTr := Aside0.mk (blk_below HTr.out hb9); replace HBr := Aside0.mk (bthen HBr.out hb9); have z0 := blk_cell HTr.out 0; have z1 := blk_cell HTr.out 1; have zf0 := blk_frozen HTr.out 0; have zf1 := blk_frozen HTr.out 1; clear hb9)))
    refine bodyPost_ret (results_ct rfl _ _ T 26 #[.slice none 0 0, .slice none 0 0] (0, 0) _ rfl (blk2 HTr.out _ _) Try.underlying26 rfl (by kernel_rfl)) rfl ?_
    exact spU_no HJ.out (below_set (below_set HBr.out hT2) hT2)
   have HJ := Aside0.mk (show joinB ls f (n : Int) = true from HJI.out.2 ⟨hso, ⟨by omega, by rw [Int.toNat_natCast]; omega⟩, by rw [Int.toNat_natCast, HL.out.1, HL.out.2, ← HON.out]; exact hbo⟩)
   go_upto_region 12 with (first
    | (go_at_call 96; ((with_reducible refine (spec_l2Sum _ (o.map (mv f)) _ (Sl.of_R HO.out) (by rw [List.length_map]; omega)).mono ?_); rintro e w8 ⟨v8, rfl, hr8, hb8⟩; rw [HOL.out] at hr8; have HO8 := Aside0.mk (Kd.R_lower hr8 (Nat.le_trans HM.out HBW.out.size)); replace HTr := Aside0.mk (blk_below HTr.out hb8); replace HXBr := Aside0.mk (blk_below HXBr.out hb8); replace HXr := Aside0.mk (HXr.out.below hb8); replace HBr := Aside0.mk (bthen HBr.out hb8); clear hr8 hb8))
    | (go_at_call 82; ((with_reducible refine (spec_BatchOk _ one _ (Sl.of_R HO8.out)).mono ?_); rintro e w9 ⟨rfl, hb9⟩; replace HO8 := Aside0.mk (Kd.R_below HO8.out hb9); replace HTr := Aside0.mk (blk_below HTr.out hb9); replace HXBr := Aside0.mk (blk_below HXBr.out hb9); replace HXr := Aside0.mk (HXr.out.below hb9); replace HBr := Aside0.mk (bthen HBr.out hb9); clear hb9)))
   clear HO HBW
   have X0 : w9.drew.cell? ⟨X, 0, none⟩ = some (.slice (some ad) ls.length c7) := blk_cell HXBr.out 0
   have X1 : w9.drew.cell? ⟨X, 1, none⟩ = some (.slice A8 f.length c8) := blk_cell HXBr.out 1
   have s0 : n ≤ c7 := Nat.le_trans (Nat.le_of_lt i4) hc7
   have s1 : (n : Int) ≤ (c7 : Int) := Int.ofNat_le.2 s0
   have hbw : w.heap.size ≤ w9.heap.size := HBr.out.size
   clear X0 X1
   have X0 : w9.cell? ⟨X, 0, none⟩ = some (.slice (some ad) ls.length c7) := blk_cell HXBr.out 0
   have X1 : w9.cell? ⟨X, 1, none⟩ = some (.slice A8 f.length c8) := blk_cell HXBr.out 1
   have hXlt : X < w9.heap.size := blk_lt HXBr.out
   have hln : (ls.take n).length = n := by rw [List.length_take]; exact Nat.min_eq_left (Nat.le_of_lt i4)
   refine start_ (n := 11) (S := fun w' => w'.cell? ⟨X, 0, none⟩ = some (.slice (some ad) ls.length c7) ∧ w'.cell? ⟨X, 1, none⟩ = some (.slice A8 f.length c8)) (ds := [10]) #[false, false, false, false, false, false, false, false, false, false, false] (by kernel_rfl) rfl rfl ⟨X0, X1⟩ (fun hHeld => ?_)
   refine with_tabW tb_spec_SpineJoin_12.tab tb_spec_SpineJoin_12.bits (fun HT_ HW_ => ?_)
   refine pure_ (i := 0) (N := some 64) (v := ?_) (a' := ?_) #[true, false, false, false, false, false, false, false, false, false, false] rfl rfl (any_of HT_.out (by kernel_rfl)) (fun _ _ _ h => h) (Or.inl ⟨by rfl, ?_⟩) ?_ ?_
   rotate_left
   ·intro w'
    go_simp
    with_reducible rfl
   rotate_left
   ·simp only [Act.put, setIfInBounds_toArray, set_cons_zero, set_cons_succ, i64_w]
    rfl
   refine pure_ (i := 3) (N := some 67) (v := ?_) (a' := ?_) #[true, false, false, true, false, false, false, false, false, false, false] rfl rfl (any_of HT_.out (by kernel_rfl)) (fun _ _ _ h => h) (Or.inl ⟨by rfl, ?_⟩) ?_ ?_
   rotate_left
   ·intro w'
    go_simp
    with_reducible rfl
   rotate_left
   ·simp only [Act.put, setIfInBounds_toArray, set_cons_zero, set_cons_succ, i64_w]
    rfl
   refine pure_ (i := 5) (N := some 69) (v := ?_) (a' := ?_) #[true, false, false, true, false, true, false, false, false, false, false] rfl rfl (any_of HT_.out (by kernel_rfl)) (fun _ _ _ h => h) (Or.inl ⟨by rfl, ?_⟩) ?_ ?_
   rotate_left
   ·intro w'
    go_simp
    with_reducible rfl
   rotate_left
   ·simp only [Act.put, setIfInBounds_toArray, set_cons_zero, set_cons_succ, i64_w]
    rfl
   refine take_ (i := 1) (N := some 65) (v := ?_) (a' := ?_) #[true, true, false, true, false, true, false, false, false, false, false] rfl rfl (take_ofW HT_.out HW_.out (by kernel_rfl)) (fun _ _ _ h => h) (Or.inl ⟨by rfl, ?_⟩) hHeld ?_ ?_
   rotate_left
   ·rintro w' ⟨s0, s1⟩
    go_simp
    with_reducible rfl
   rotate_left
   ·simp only [Act.put, setIfInBounds_toArray, set_cons_zero, set_cons_succ, i64_w]
    rfl
   refine take_ (i := 4) (N := some 68) (v := ?_) (a' := ?_) #[true, true, false, true, true, true, false, false, false, false, false] rfl rfl (take_ofW HT_.out HW_.out (by kernel_rfl)) (fun _ _ _ h => h) (Or.inl ⟨by rfl, ?_⟩) hHeld ?_ ?_
   rotate_left
   ·rintro w' ⟨s0, s1⟩
    go_simp
    with_reducible rfl
   rotate_left
   ·simp only [Act.put, setIfInBounds_toArray, set_cons_zero, set_cons_succ, i64_w]
    rfl
   refine pure_ (i := 6) (N := some 70) (v := ?_) (a' := ?_) #[true, true, false, true, true, true, true, false, false, false, false] rfl rfl (any_of HT_.out (by kernel_rfl)) (fun _ _ _ h => h) (Or.inl ⟨by rfl, ?_⟩) ?_ ?_
   rotate_left
   ·intro w'
    go_simp
    with_reducible rfl
   rotate_left
   ·simp only [Act.put, setIfInBounds_toArray, set_cons_zero, set_cons_succ, i64_w]
    rfl
   refine join_ (σ := (Value × Option Addr × Nat × Nat)) 1 #[true, true, true, true, true, true, true, true, true, true, false] (fun s => [(66, s.1), (71, .slice s.2.1 n s.2.2.1), (9, .pointer (some ⟨s.2.2.2, 0, none⟩)), (72, .agg #[.slice s.2.1 n s.2.2.1, .slice A8 f.length c8])]) (fun s w' => w'.cell? ⟨X, 0, none⟩ = some (.slice (some ad) ls.length c7) ∧ w'.cell? ⟨X, 1, none⟩ = some (.slice A8 f.length c8) ∧ w9.heap.size ≤ s.2.2.2 ∧ w'.heap[s.2.2.2]? = some (.cells #[.slice none 0 0, .slice none 0 0] 26 (0, 0)) ∧ kSh.R 27 w' w.heap.size (fun q => q ≠ s.2.2.2) (.slice s.2.1 n s.2.2.1) (ls.take n) ∧ (∀ q, (Value.slice s.2.1 n s.2.2.1).ownBlock = some q → w9.heap.size ≤ q) ∧ Below w9.heap.size w9 w') ?_ ?_
   rotate_left
   ·intro hCont
    refine two_ (i := 2) (j := 9) (Ni := some 66) (Nj := some 9) #[true, true, true, true, true, true, true, false, false, false, false] #[true, true, false, true, true, true, true, false, false, true, false] rfl rfl rfl rfl (two_of HT_.out (by kernel_rfl)) (by decide) (by decide) (fun K hK => ?_) (fun K hK => ?_)
    ·skip
     refine Kd.R_lit_step kSh _ 27 ?hg2 (N := 66) ?hd2 (xs := ([] : List (List Rw))) (inner := []) (ok := okT) (okp := fun _ => False) ?hr2 ?hp2 (fun _ hk => hk.elim) trivial (Below.refl _ _) (Nat.le_refl _) (by simp) ?_; (case hd2 => rfl); (case hg2 => rfl); (case hr2 => first|(go_simp; done)|(go_simp; rfl)); (case hp2 => exact (Reps.none _ _))
     intro v10 wa hr1 hb1 hg1 hn1_
     have HV1 := Aside0.mk (Kd.R_lower hr1 hbw)
     have hba : Below w9.heap.size w9 wa := bthen (below_drew (Below.refl _ _)) hb1
     have HW10 : Aside0 (∀ q, v10.ownBlock = some q → w9.heap.size ≤ q) := ⟨fun q hq => by obtain ⟨b, h1, h2⟩ := hn1_; rw [h1] at hq; cases hq; exact h2⟩
     clear hr1 hb1 hg1 hn1_
     refine hK.out _ _ ⟨pw_cell_below hba X0, pw_cell_below hba X1⟩ (fun hHeld => ?_)
     clear hK K
     refine norm_ (a' := ?_) ?_ ?_
     rotate_left
     ·show Act.put _ (some 66) _ = _
      simp only [Act.put, setIfInBounds_toArray, set_cons_zero, set_cons_succ, i64_w]
      rfl
     refine two_ (i := 7) (j := 9) (Ni := some 71) (Nj := some 9) #[true, true, true, true, true, true, true, true, false, false, false] #[true, true, true, true, true, true, true, false, false, true, false] rfl rfl rfl rfl (two_of HT_.out (by kernel_rfl)) (by decide) (by decide) (fun K hK => ?_) (fun K hK => ?_)
     ·skip
      refine stepLay (W := wa) (base := w.heap.size) (N0 := w9.heap.size) (xs := []) (ys := ls.take n) (A := some ad) (m := n) (c := c7) (ok := okT) rfl rfl rfl HV1.out (rr_take (shRead HXr.out.1 hba) (Nat.le_of_lt i4)) HW10.out (hba).size (fun _ _ => trivial) (fun _ _ => trivial) (Nat.le_trans hbw (hba).size) hnl ?_
      intro v11 wb hr1 hb1 ho1 hg1
      rw [List.nil_append] at hr1
      obtain ⟨A11, c11, e11⟩ := Kd.R_slice hr1
      rw [hln] at e11
      subst e11
      have HV2 := Aside0.mk hr1
      have hbb : Below w9.heap.size w9 wb := below_more hba hb1
      have HW11 := Aside0.mk ho1
      clear hr1 hb1 hg1 ho1
      refine hK.out _ _ ⟨pw_cell_below hbb X0, pw_cell_below hbb X1⟩ (fun hHeld => ?_)
      clear hK K
      refine norm_ (a' := ?_) ?_ ?_
      rotate_left
      ·show Act.put _ (some 71) _ = _
       simp only [Act.put, setIfInBounds_toArray, set_cons_zero, set_cons_succ, i64_w]
       rfl
      refine pure_ (i := 8) (N := some 72) (v := ?_) (a' := ?_) #[true, true, true, true, true, true, true, true, true, false, false] rfl rfl (any_of HT_.out (by kernel_rfl)) (fun _ _ _ h => h) (Or.inl ⟨by rfl, ?_⟩) ?_ ?_
      rotate_left
      ·intro w'
       go_simp
       with_reducible rfl
      rotate_left
      ·simp only [Act.put, setIfInBounds_toArray, set_cons_zero, set_cons_succ, i64_w]
       rfl
      refine one_ (i := 9) (N := some 9) #[true, true, true, true, true, true, true, true, true, true, false] rfl rfl (one_of HT_.out (by kernel_rfl)) (by decide) (fun K hK => ?_)
      refine box_step ?hb9 (N := 9) ?hd9 (cs := #[.slice none 0 0, .slice none 0 0]) (t := 26) ?hr9 ?_; (case hd9 => rfl); (case hb9 => rfl); (case hr9 => first|(go_simp; done)|(go_simp; rfl))
      intro Y hYe wy hy hby
      have HY := Aside0.mk hy
      have hYN : w9.heap.size ≤ Y := by rw [hYe]; exact hbb.size
      have hbe : Below w9.heap.size w9 wy := bthen hbb hby
      replace HV2 := Aside0.mk (Kd.R_below (Kd.R_mono (Kd.R_bound HV2.out) (ok' := fun q => q ≠ Y) (fun q hq => by rw [hYe]; exact Nat.ne_of_lt hq.2.2.1)) hby)
      clear hy hby hYe
      refine hK.out _ _ ⟨pw_cell_below hbe X0, pw_cell_below hbe X1⟩ (fun hHeld => ?_)
      clear hK K
      refine norm_ (a' := ?_) ?_ ?_
      rotate_left
      ·show Act.put _ (some 9) _ = _
       simp only [Act.put, setIfInBounds_toArray, set_cons_zero, set_cons_succ, i64_w]
       rfl
      exact norm_ (by simp only [Go.Proofs.YtkdendlgaaimbaaW.PrintLast.putAll, Act.put, List.setIfInBounds_toArray, List.set_cons_zero, List.set_cons_succ]) (hCont (v10, A11, c11, Y) _ ⟨pw_cell_below hbe X0, pw_cell_below hbe X1, hYN, HY.out, HV2.out, HW11.out, hbe⟩)
     ·skip
      refine box_step ?hb9 (N := 9) ?hd9 (cs := #[.slice none 0 0, .slice none 0 0]) (t := 26) ?hr9 ?_; (case hd9 => rfl); (case hb9 => rfl); (case hr9 => first|(go_simp; done)|(go_simp; rfl))
      intro Y hYe wy hy hby
      have HY := Aside0.mk hy
      have hYN : w9.heap.size ≤ Y := by rw [hYe]; exact hba.size
      have hbe : Below w9.heap.size w9 wy := bthen hba hby
      replace HV1 := Aside0.mk (Kd.R_below (Kd.R_mono (Kd.R_bound HV1.out) (ok' := fun q => q ≠ Y) (fun q hq => by rw [hYe]; exact Nat.ne_of_lt hq.2.2.1)) hby)
      clear hy hby hYe
      refine hK.out _ _ ⟨pw_cell_below hbe X0, pw_cell_below hbe X1⟩ (fun hHeld => ?_)
      clear hK K
      refine norm_ (a' := ?_) ?_ ?_
      rotate_left
      ·show Act.put _ (some 9) _ = _
       simp only [Act.put, setIfInBounds_toArray, set_cons_zero, set_cons_succ, i64_w]
       rfl
      refine one_ (i := 7) (N := some 71) #[true, true, true, true, true, true, true, true, false, true, false] rfl rfl (one_of HT_.out (by kernel_rfl)) (by decide) (fun K hK => ?_)
      refine stepLay (W := wy) (base := w.heap.size) (N0 := w9.heap.size) (xs := []) (ys := ls.take n) (A := some ad) (m := n) (c := c7) (ok := (fun q => q ≠ Y)) rfl rfl rfl HV1.out (rr_take (shRead HXr.out.1 hbe) (Nat.le_of_lt i4)) HW10.out (hbe).size (fun q hq => Nat.ne_of_lt (Nat.lt_of_lt_of_le hq hYN)) (fun q hq => Ne.symm (Nat.ne_of_lt (Nat.lt_of_lt_of_le (blk_lt HY.out) hq))) (Nat.le_trans hbw (hbe).size) hnl ?_
      intro v11 wb hr1 hb1 ho1 hg1
      rw [List.nil_append] at hr1
      obtain ⟨A11, c11, e11⟩ := Kd.R_slice hr1
      rw [hln] at e11
      subst e11
      have HV2 := Aside0.mk hr1
      have hbb : Below w9.heap.size w9 wb := below_more hbe hb1
      replace HY := Aside0.mk ((hg1.block Y (blk_lt HY.out) (fun e => (HV1.out.1 Y e.symm) rfl)).trans HY.out)
      have HW11 := Aside0.mk ho1
      clear hr1 hb1 hg1 ho1
      refine hK.out _ _ ⟨pw_cell_below hbb X0, pw_cell_below hbb X1⟩ (fun hHeld => ?_)
      clear hK K
      refine norm_ (a' := ?_) ?_ ?_
      rotate_left
      ·show Act.put _ (some 71) _ = _
       simp only [Act.put, setIfInBounds_toArray, set_cons_zero, set_cons_succ, i64_w]
       rfl
      refine pure_ (i := 8) (N := some 72) (v := ?_) (a' := ?_) #[true, true, true, true, true, true, true, true, true, true, false] rfl rfl (any_of HT_.out (by kernel_rfl)) (fun _ _ _ h => h) (Or.inl ⟨by rfl, ?_⟩) ?_ ?_
      rotate_left
      ·intro w'
       go_simp
       with_reducible rfl
      rotate_left
      ·simp only [Act.put, setIfInBounds_toArray, set_cons_zero, set_cons_succ, i64_w]
       rfl
      exact norm_ (by simp only [Go.Proofs.YtkdendlgaaimbaaW.PrintLast.putAll, Act.put, List.setIfInBounds_toArray, List.set_cons_zero, List.set_cons_succ]) (hCont (v10, A11, c11, Y) _ ⟨pw_cell_below hbb X0, pw_cell_below hbb X1, hYN, HY.out, HV2.out, HW11.out, hbb⟩)
    ·skip
     refine box_step ?hb9 (N := 9) ?hd9 (cs := #[.slice none 0 0, .slice none 0 0]) (t := 26) ?hr9 ?_; (case hd9 => rfl); (case hb9 => rfl); (case hr9 => first|(go_simp; done)|(go_simp; rfl))
     intro Y hYe wy hy hby
     have HY := Aside0.mk hy
     have hYN : w9.heap.size ≤ Y := Nat.le_of_eq hYe.symm
     have hbe : Below w9.heap.size w9 wy := bthen (below_drew (Below.refl _ _)) hby
     clear hy hby hYe
     refine hK.out _ _ ⟨pw_cell_below hbe X0, pw_cell_below hbe X1⟩ (fun hHeld => ?_)
     clear hK K
     refine norm_ (a' := ?_) ?_ ?_
     rotate_left
     ·show Act.put _ (some 9) _ = _
      simp only [Act.put, setIfInBounds_toArray, set_cons_zero, set_cons_succ, i64_w]
      rfl
     refine one_ (i := 2) (N := some 66) #[true, true, true, true, true, true, true, false, false, true, false] rfl rfl (one_of HT_.out (by kernel_rfl)) (by decide) (fun K hK => ?_)
     have hYl := blk_lt HY.out
     refine Kd.R_lit_step kSh _ 27 ?hg2 (N := 66) ?hd2 (xs := ([] : List (List Rw))) (inner := []) (ok := (fun q => q ≠ Y)) (okp := fun _ => False) ?hr2 ?hp2 (fun _ hk => hk.elim) (Ne.symm (Nat.ne_of_lt hYl)) (Below.refl _ _) (Nat.le_refl _) (by simp) ?_; (case hd2 => rfl); (case hg2 => rfl); (case hr2 => first|(go_simp; done)|(go_simp; rfl)); (case hp2 => exact (Reps.none _ _))
     intro v10 wa hr1 hb1 hg1 hn1_
     have HV1 := Aside0.mk (Kd.R_lower hr1 (Nat.le_trans hbw hbe.size))
     have hba : Below w9.heap.size w9 wa := bthen hbe hb1
     replace HY := Aside0.mk (blk_below HY.out hb1)
     have HW10 : Aside0 (∀ q, v10.ownBlock = some q → w9.heap.size ≤ q) := ⟨fun q hq => by obtain ⟨b, h1, h2⟩ := hn1_; rw [h1] at hq; cases hq; exact Nat.le_trans hbe.size h2⟩
     clear hr1 hb1 hg1 hn1_ hYl
     refine hK.out _ _ ⟨pw_cell_below hba X0, pw_cell_below hba X1⟩ (fun hHeld => ?_)
     clear hK K
     refine norm_ (a' := ?_) ?_ ?_
     rotate_left
     ·show Act.put _ (some 66) _ = _
      simp only [Act.put, setIfInBounds_toArray, set_cons_zero, set_cons_succ, i64_w]
      rfl
     refine one_ (i := 7) (N := some 71) #[true, true, true, true, true, true, true, true, false, true, false] rfl rfl (one_of HT_.out (by kernel_rfl)) (by decide) (fun K hK => ?_)
     refine stepLay (W := wa) (base := w.heap.size) (N0 := w9.heap.size) (xs := []) (ys := ls.take n) (A := some ad) (m := n) (c := c7) (ok := (fun q => q ≠ Y)) rfl rfl rfl HV1.out (rr_take (shRead HXr.out.1 hba) (Nat.le_of_lt i4)) HW10.out (hba).size (fun q hq => Nat.ne_of_lt (Nat.lt_of_lt_of_le hq hYN)) (fun q hq => Ne.symm (Nat.ne_of_lt (Nat.lt_of_lt_of_le (blk_lt HY.out) hq))) (Nat.le_trans hbw (hba).size) hnl ?_
     intro v11 wb hr1 hb1 ho1 hg1
     rw [List.nil_append] at hr1
     obtain ⟨A11, c11, e11⟩ := Kd.R_slice hr1
     rw [hln] at e11
     subst e11
     have HV2 := Aside0.mk hr1
     have hbb : Below w9.heap.size w9 wb := below_more hba hb1
     replace HY := Aside0.mk ((hg1.block Y (blk_lt HY.out) (fun e => (HV1.out.1 Y e.symm) rfl)).trans HY.out)
     have HW11 := Aside0.mk ho1
     clear hr1 hb1 hg1 ho1
     refine hK.out _ _ ⟨pw_cell_below hbb X0, pw_cell_below hbb X1⟩ (fun hHeld => ?_)
     clear hK K
     refine norm_ (a' := ?_) ?_ ?_
     rotate_left
     ·show Act.put _ (some 71) _ = _
      simp only [Act.put, setIfInBounds_toArray, set_cons_zero, set_cons_succ, i64_w]
      rfl
     refine pure_ (i := 8) (N := some 72) (v := ?_) (a' := ?_) #[true, true, true, true, true, true, true, true, true, true, false] rfl rfl (any_of HT_.out (by kernel_rfl)) (fun _ _ _ h => h) (Or.inl ⟨by rfl, ?_⟩) ?_ ?_
     rotate_left
     ·intro w'
      go_simp
      with_reducible rfl
     rotate_left
     ·simp only [Act.put, setIfInBounds_toArray, set_cons_zero, set_cons_succ, i64_w]
      rfl
     exact norm_ (by simp only [Go.Proofs.YtkdendlgaaimbaaW.PrintLast.putAll, Act.put, List.setIfInBounds_toArray, List.set_cons_zero, List.set_cons_succ]) (hCont (v10, A11, c11, Y) _ ⟨pw_cell_below hbb X0, pw_cell_below hbb X1, hYN, HY.out, HV2.out, HW11.out, hbb⟩)
   rintro ⟨v10, A11, c11, Y⟩ wc ⟨C0, C1, hYN, hy, hv2, hw11, hbc⟩
   have HY := Aside0.mk hy
   have HV2 := Aside0.mk hv2
   have HW11 := Aside0.mk hw11
   have y0 := blk_cell hy 0
   have y1 := blk_cell hy 1
   have yf0 := blk_frozen hy 0
   have yf1 := blk_frozen hy 1
   clear hy hv2 hw11
   have hHeld : wc.cell? ⟨X, 0, none⟩ = some (.slice (some ad) ls.length c7) ∧ wc.cell? ⟨X, 1, none⟩ = some (.slice A8 f.length c8) := ⟨C0, C1⟩
   refine norm_ (a' := ?_) ?_ ?_
   rotate_left
   ·simp only [Go.Proofs.YtkdendlgaaimbaaW.PrintLast.putAll, Act.put, List.setIfInBounds_toArray, List.set_cons_zero, List.set_cons_succ]
    rfl
   refine last_ (i := 10) (N := none) #[true, true, true, true, true, true, true, true, true, true, true] rfl rfl (one_of HT_.out (by kernel_rfl)) (by decide) (fun K hK => ?_)
   refine skip_ (w1 := ?_) (by rfl) rfl ?_ ?_
   rotate_left
   ·go_simp
    rfl
   refine hK.out _ _ ?_
   clear hK K
   refine done_ (done_of HT_.out (by kernel_rfl)) ?_
   have hyd := blk2 HY.out (.slice A11 n c11) (.slice A8 f.length c8)
   have hvd := Kd.R_far (Kd.R_far HV2.out (p := ⟨Y, 0, none⟩) (fun k hk => hk) (.slice A11 n c11)) (p := ⟨Y, 1, none⟩) (fun k hk => hk) (.slice A8 f.length c8)
   have hbd := below_set (g := Y) (j := 1) (v := .slice A8 f.length c8) (below_set (g := Y) (j := 0) (v := .slice A11 n c11) hbc hYN) hYN
   obtain ⟨wd, hwd⟩ : ∃ wd, wd = (wc.setCell ⟨Y, 0, none⟩ (.slice A11 n c11)).setCell ⟨Y, 1, none⟩ (.slice A8 f.length c8) := ⟨_, rfl⟩
   rw [← hwd] at hyd hvd hbd ⊢
   clear hwd C0 C1 hHeld y0 y1 yf0 yf1 HY HV2 hbc
   obtain ⟨Ao, co, rfl⟩ := Kd.R_slice HO8.out
   have HY := Aside0.mk hyd
   have HV2 := Aside0.mk hvd
   have HM1 := Aside0.mk (kSh.M_below (sh_M (Kd.R_mono (Kd.R_bound HO8.out) (ok' := fun q => q < w9.heap.size) (fun q hq => hq.2.2.1))) hbd)
   have hnl2 : (ls.take n).length < 3518437208000 := by rw [hln]; have := hnl; rwa [Nat.zero_add] at this
   have hln2 : (ls.take n ++ [one]).length = n + 1 := by rw [List.length_append, hln]; rfl
   have y0 := blk_cell HY.out 0
   have HBD := Aside0.mk hbd
   clear hyd hvd hbd X0 X1
   go_wp2_with (at_builtin; (refine appLay (W := wd) (base := w.heap.size) (N0 := w9.heap.size) (xs := ls.take n) (y := one) (u := .slice Ao one.length co) (ok := fun q => q ≠ Y) rfl rfl rfl HV2.out HM1.out HW11.out HBD.out.size (fun q hq => Nat.ne_of_lt (Nat.lt_of_lt_of_le hq hYN)) (fun q hq => Ne.symm (Nat.ne_of_lt (Nat.lt_of_lt_of_le (blk_lt HY.out) hq))) (Nat.le_trans hbw HBD.out.size) hnl2 ?_; intro v13 we hr1 hb1 ho1 hg1; obtain ⟨A13, c13, e13⟩ := Kd.R_slice hr1; rw [hln2] at e13; subst e13; have HV3 := Aside0.mk hr1; have HBE := Aside0.mk (below_more HBD.out hb1); have HYE := Aside0.mk ((hg1.block Y (blk_lt HY.out) (fun e => (HV2.out.1 Y e.symm) rfl)).trans HY.out); have HW13 := Aside0.mk ho1; have z0 := blk_cell HYE.out 0; have z1 := blk_cell HYE.out 1; have zf0 := blk_frozen HYE.out 0; have zf1 := blk_frozen HYE.out 1; clear hr1 hb1 hg1 ho1))
   have hyf : (we.setCell ⟨Y, 0, none⟩ (.slice A13 (n + 1) c13)).heap[Y]? = some (.cells #[.slice A13 (n + 1) c13, .slice A8 f.length c8] 26 (0, 0)) := by simpa using blk_set HYE.out 0 (.slice A13 (n + 1) c13)
   have hvf := Kd.R_far HV3.out (p := ⟨Y, 0, none⟩) (fun k hk => hk) (.slice A13 (n + 1) c13)
   have hbf := below_set (g := Y) (j := 0) (v := .slice A13 (n + 1) c13) HBE.out hYN
   obtain ⟨wf, hwf⟩ : ∃ wf, wf = we.setCell ⟨Y, 0, none⟩ (.slice A13 (n + 1) c13) := ⟨_, rfl⟩
   rw [← hwf] at hyf hvf hbf ⊢
   clear hwf HYE HV3 HBE HY HV2 HBD HM1 z0 z1 zf0 zf1 y0 HW11
   have HYF := Aside0.mk hyf
   have HVF := Aside0.mk (R_drew hvf)
   have HBF := Aside0.mk (below_drew hbf)
   have V0 : wf.drew.cell? ⟨Y, 0, none⟩ = some (.slice A13 (n + 1) c13) := blk_cell hyf 0
   have X0 : wf.drew.cell? ⟨X, 0, none⟩ = some (.slice (some ad) ls.length c7) := blk_cell (blk_below HXBr.out hbf) 0
   have HRD := Aside0.mk (rr_drop (shRead HXr.out.1 HBF.out) (m := n + 2) H14.out.1 hc7)
   obtain ⟨-, hn2, hn3, ew2, hl2⟩ := H14.out
   have hn4 : (ls.length : Int) ≤ (c7 : Int) := Int.ofNat_le.2 hc7
   have hn5 : (n : Int) + 2 ≤ (c7 : Int) := Int.le_trans hn2 hn4
   rw [← hln2] at hl2
   have hkeep : ∀ q, q < w9.heap.size → q ≠ Y := fun q hq => Nat.ne_of_lt (Nat.lt_of_lt_of_le hq hYN)
   have HKP := Aside0.mk hkeep
   clear hyf hvf hbf hkeep
   refine start_ (n := 10) (S := fun w' => w'.cell? ⟨Y, 0, none⟩ = some (.slice A13 (n + 1) c13) ∧ w'.cell? ⟨X, 0, none⟩ = some (.slice (some ad) ls.length c7)) (ds := [9]) #[false, false, false, false, false, false, false, false, false, false] (by kernel_rfl) rfl rfl ⟨V0, X0⟩ (fun hHeld => ?_)
   refine with_tabW tb_spec_SpineJoin_14.tab tb_spec_SpineJoin_14.bits (fun HT_ HW_ => ?_)
   refine pure_ (i := 0) (N := some 79) (v := ?_) (a' := ?_) #[true, false, false, false, false, false, false, false, false, false] rfl rfl (any_of HT_.out (by kernel_rfl)) (fun _ _ _ h => h) (Or.inl ⟨by rfl, ?_⟩) ?_ ?_
   rotate_left
   ·intro w'
    go_simp
    with_reducible rfl
   rotate_left
   ·simp only [Act.put, setIfInBounds_toArray, set_cons_zero, set_cons_succ, i64_w]
    rfl
   refine pure_ (i := 2) (N := some 81) (v := ?_) (a' := ?_) #[true, false, true, false, false, false, false, false, false, false] rfl rfl (any_of HT_.out (by kernel_rfl)) (fun _ _ _ h => h) (Or.inl ⟨by rfl, ?_⟩) ?_ ?_
   rotate_left
   ·intro w'
    go_simp
    with_reducible rfl
   rotate_left
   ·simp only [Act.put, setIfInBounds_toArray, set_cons_zero, set_cons_succ, i64_w]
    rfl
   refine pure_ (i := 4) (N := some 83) (v := ?_) (a' := ?_) #[true, false, true, false, true, false, false, false, false, false] rfl rfl (any_of HT_.out (by kernel_rfl)) (fun _ _ _ h => h) (Or.inl ⟨by rfl, ?_⟩) ?_ ?_
   rotate_left
   ·intro w'
    go_simp
    with_reducible rfl
   rotate_left
   ·simp only [Act.put, setIfInBounds_toArray, set_cons_zero, set_cons_succ, i64_w]
    rfl
   refine pure_ (i := 5) (N := some 84) (v := ?_) (a' := ?_) #[true, false, true, false, true, true, false, false, false, false] rfl rfl (any_of HT_.out (by kernel_rfl)) (fun _ _ _ h => h) (Or.inl ⟨by rfl, ?_⟩) ?_ ?_
   rotate_left
   ·intro w'
    go_simp
    with_reducible rfl
   rotate_left
   ·simp only [Act.put, setIfInBounds_toArray, set_cons_zero, set_cons_succ, i64_w]
    rfl
   refine take_ (i := 1) (N := some 80) (v := ?_) (a' := ?_) #[true, true, true, false, true, true, false, false, false, false] rfl rfl (take_ofW HT_.out HW_.out (by kernel_rfl)) (fun _ _ _ h => h) (Or.inl ⟨by rfl, ?_⟩) hHeld ?_ ?_
   rotate_left
   ·rintro w' ⟨s0, s1⟩
    go_simp
    with_reducible rfl
   rotate_left
   ·simp only [Act.put, setIfInBounds_toArray, set_cons_zero, set_cons_succ, i64_w]
    rfl
   refine take_ (i := 3) (N := some 82) (v := ?_) (a' := ?_) #[true, true, true, true, true, true, false, false, false, false] rfl rfl (take_ofW HT_.out HW_.out (by kernel_rfl)) (fun _ _ _ h => h) (Or.inl ⟨by rfl, ?_⟩) hHeld ?_ ?_
   rotate_left
   ·rintro w' ⟨s0, s1⟩
    go_simp
    with_reducible rfl
   rotate_left
   ·simp only [Act.put, setIfInBounds_toArray, set_cons_zero, set_cons_succ, i64_w]
    rfl
   refine pure_ (i := 6) (N := some 85) (v := ?_) (a' := ?_) #[true, true, true, true, true, true, true, false, false, false] rfl rfl (any_of HT_.out (by kernel_rfl)) (fun _ _ _ h => h) (Or.inl ⟨by rfl, ?_⟩) ?_ ?_
   rotate_left
   ·intro w'
    go_simp
    with_reducible rfl
   rotate_left
   ·simp only [Act.put, setIfInBounds_toArray, set_cons_zero, set_cons_succ, i64_w]
    rfl
   refine one_ (i := 7) (N := some 86) #[true, true, true, true, true, true, true, true, false, false] rfl rfl (one_of HT_.out (by kernel_rfl)) (by decide) (fun K hK => ?_)
   refine stepLay (W := wf.drew) (base := w.heap.size) (N0 := w9.heap.size) (xs := ls.take n ++ [one]) (ys := ls.drop (n + 2)) (A := if c7 = n + 2 then some ad else (some ad).map (·.add ((n + 2) * 1))) (m := ls.length - (n + 2)) (c := c7 - (n + 2)) (ok := fun q => q ≠ Y) rfl rfl (by go_simp; (by_cases hcap : c7 = n + 2) <;> first|(simp [hcap, H15.out]; done)|(simp [hcap, H15.out]; rfl)) HVF.out HRD.out HW13.out HBF.out.size HKP.out (fun q hq => Ne.symm (Nat.ne_of_lt (Nat.lt_of_lt_of_le (blk_lt HYF.out) hq))) (Nat.le_trans hbw HBF.out.size) hl2 ?_
   intro v14 wg hr1 hb1 ho1 hg1
   obtain ⟨A14, c14, e14⟩ := Kd.R_slice hr1
   obtain ⟨m14, hm14⟩ : ∃ m, m = ((ls.take n ++ [one]) ++ ls.drop (n + 2)).length := ⟨_, rfl⟩
   rw [← hm14] at e14
   subst e14
   clear hm14
   have HV5 := Aside0.mk hr1
   have HBG := Aside0.mk (below_more HBF.out hb1)
   have HYG := Aside0.mk ((hg1.block Y (blk_lt HYF.out) (fun e => (HVF.out.1 Y e.symm) rfl)).trans HYF.out)
   have u0 := blk_cell HYG.out 0
   have u2 : wg.cell? ⟨X, 0, none⟩ = some (.slice (some ad) ls.length c7) := blk_cell (blk_below HXBr.out HBG.out) 0
   have uf0 := blk_frozen HYG.out 0
   clear hr1 hb1 ho1 hg1
   refine hK.out _ _ ⟨u0, u2⟩ (fun hHeld => ?_)
   clear hK K
   refine norm_ (a' := ?_) ?_ ?_
   rotate_left
   ·show Act.put _ (some 86) _ = _
    simp only [Act.put, setIfInBounds_toArray, set_cons_zero, set_cons_succ, i64_w]
    rfl
   refine pure_ (i := 8) (N := some 87) (v := ?_) (a' := ?_) #[true, true, true, true, true, true, true, true, true, false] rfl rfl (any_of HT_.out (by kernel_rfl)) (fun _ _ _ h => h) (Or.inl ⟨by rfl, ?_⟩) ?_ ?_
   rotate_left
   ·intro w'
    go_simp
    with_reducible rfl
   rotate_left
   ·simp only [Act.put, setIfInBounds_toArray, set_cons_zero, set_cons_succ, i64_w]
    rfl
   refine last_ (i := 9) (N := none) #[true, true, true, true, true, true, true, true, true, true] rfl rfl (one_of HT_.out (by kernel_rfl)) (by decide) (fun K hK => ?_)
   refine skip_ (w1 := ?_) (by rfl) rfl ?_ ?_
   rotate_left
   ·go_simp
    rfl
   refine hK.out _ _ ?_
   clear hK K
   refine done_ (done_of HT_.out (by kernel_rfl)) ?_
   have hyh := blk_set HYG.out 0 (.slice A14 m14 c14)
   have hvh := Kd.R_far HV5.out (p := ⟨Y, 0, none⟩) (fun k hk => hk) (.slice A14 m14 c14)
   have hbh := below_set (g := Y) (j := 0) (v := .slice A14 m14 c14) HBG.out hYN
   obtain ⟨wh, hwh⟩ : ∃ wh, wh = wg.setCell ⟨Y, 0, none⟩ (.slice A14 m14 c14) := ⟨_, rfl⟩
   rw [← hwh] at hyh hvh hbh ⊢
   have y0 : wh.cell? ⟨Y, 0, none⟩ = some (.slice A14 m14 c14) := blk_cell hyh 0
   have y1 : wh.cell? ⟨Y, 1, none⟩ = some (.slice A8 f.length c8) := blk_cell hyh 1
   have hth := blk_below HTr.out hbh
   have z0 := blk_cell hth 0
   have z1 := blk_cell hth 1
   have zf0 := blk_frozen hth 0
   have zf1 := blk_frozen hth 1
   have HTH := Aside0.mk hth
   have HVH := Aside0.mk (offT hvh hth (by decide))
   have HV9 : Aside0 (kSh.R 27 wh w.heap.size (fun q => q ≠ Y ∧ q ≠ T) (.slice A14 m14 c14) (joinAt ls f n)) := ⟨by
    have := HVH.out
    rw [List.append_assoc, HON.out] at this
    unfold joinAt
    rw [HL.out.1, HL.out.2]
    exact this⟩
   have HFH := Aside0.mk (offT (Kd.R_below HXr.out.2 hbh) hth (by decide))
   have HBH := Aside0.mk (bthen HBr.out hbh)
   clear hwh hyh hvh hbh hth HV5 HBG HYG u0 u2 uf0 hHeld HYF HVF HBF V0 X0 HRD
   go_wp2
   all_goals
    refine bodyPost_ret (results_ct rfl _ _ T 26 #[.slice A14 m14 c14, .slice A8 f.length c8] (0, 0) _ rfl (blk2 HTH.out _ _) Try.underlying26 rfl (by kernel_rfl)) rfl ?_
    refine spU_yes HJ.out ⟨?_, ?_⟩ (below_set (below_set HBH.out hT2) hT2)
    ·rw [Int.toNat_natCast]
     exact Kd.R_mono (Kd.R_far (Kd.R_far HV9.out (p := ⟨T, 0, none⟩) (fun k hk => hk.2) _) (p := ⟨T, 1, none⟩) (fun k hk => hk.2) _) (fun _ _ => trivial)
    ·exact Kd.R_mono (Kd.R_far (Kd.R_far HFH.out (p := ⟨T, 0, none⟩) (fun k hk => hk.2) _) (p := ⟨T, 1, none⟩) (fun k hk => hk.2) _) (fun _ _ => trivial)
end Go.Proofs.Ytkdendlgaaimbaa.X
