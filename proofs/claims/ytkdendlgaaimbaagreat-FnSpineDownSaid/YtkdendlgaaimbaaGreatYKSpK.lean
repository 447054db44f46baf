/- Conditions: none. -/
import Derived.Test.YtkdendlgaaimbaaGreatYKSpJ
import Derived.Test.YtkdendlgaaimbaaGreatYKMv2
import Derived.Test.YtkdendlgaaimbaaGreatYKPlH
namespace Go.Proofs.YtkdendlgaaimbaaGreat.X
open Go.RowKit Go.Proofs.YtkdendlgaaimbaaGreatW.PrintWords Go.Proofs.YtkdendlgaaimbaaGreatW.PrintLast
open List (setIfInBounds_toArray set_cons_zero set_cons_succ)
set_option linter.unusedVariables false
set_option linter.unusedSimpArgs false
def kFo (W0 : World) : Kd (List Rw) where
 sz := 1
 E := []
 K := fun _ xs cs => ∃ A c, cs = [.slice A xs.length c] ∧ xs.length ≤ c ∧ kRw.C W0 A xs.length xs
 M := fun _ _ _ xs cs => ∃ A c, cs = [.slice A xs.length c] ∧ xs.length ≤ c ∧ kRw.C W0 A xs.length xs
 K_len := by
  rintro w x cs ⟨A, c, rfl, _⟩
  rfl
 K_one := by
  rintro w x cs ⟨A, c, rfl, _⟩ u hu
  rw [List.mem_singleton.1 hu]
  rfl
 K_below := fun _ h => h
 K_of_M := fun h => h
 M_mono := fun _ h => h
 M_bound := fun h => h
 M_move := fun _ h => h
 M_lower := fun _ h => h
theorem Sl.of_Fo {W0 w : World} {base : Nat} {ok : Nat → Prop} {v : Value} {ls : List (List Rw)} (h : (kFo W0).R 27 w base ok v ls) (hb : Below W0.heap.size W0 w) : Sl (Kd.slice 60 kRw) w v ls := by
 obtain ⟨A, c, rfl, h1, h2⟩ := Kd.R_reads h
 refine ⟨A, c, rfl, h1, ReadsRow.imp_ h2 (Below.refl _ _) ?_⟩
 rintro xs cs ⟨B, d, rfl, h3, h4⟩
 exact ⟨B, d, rfl, h3, Kd.C_below h4 hb⟩
theorem foRead {w W0 W : World} {A : Option Addr} {n : Nat} {ls : List (List Rw)} (h : (Kd.slice 60 kRw).C w A n ls) (hb : Below w.heap.size w W0) (hb2 : Below w.heap.size w W) (base : Nat) : ReadsRow ((kFo W0).M W base (fun _ => False)) 1 W A n ls := by
 refine ReadsRow.imp_ h hb2 ?_
 rintro xs cs ⟨B, d, rfl, h3, h4⟩
 exact ⟨B, d, rfl, h3, Kd.C_below h4 hb⟩
section
variable {ops : Array Oper} {o : Oper} {a : Act} {Q : Exit → Act → World → Prop} {Kc : Act → World → Prop}
theorem stepFo {W0 W : World} {base : Nat} {s x : Operand} {xs ys : List (List Rw)} {ok : Nat → Prop} {A : Option Addr} {m c : Nat} (hw : Region.wanted o (yielded ops a.tmps) = true)
  (ho : o.op = .call { callee := .builtin .append, args := #[s, x], argTypes := #[23, 23] })
  (hx : a.eval x = .slice A m c) (HO : (kFo W0).R 27 W base ok (a.eval s) xs) (HR : ReadsRow ((kFo W0).M W base (fun _ => False)) 1 W A m ys) (hfresh : ∀ k, W.heap.size ≤ k → ok k) (hbase : base ≤ W.heap.size) (hl : xs.length + m < 3518437208000)
  (h : ∀ v1 w1, (kFo W0).R 27 w1 base ok v1 (xs ++ ys) → Below base W w1 → W.grownBy w1 (a.eval s).ownBlock → Kc (a.put o.dst v1) w1) :
  if Region.wanted o (yielded ops a.tmps) = true then Oper.wp Tryz.prog o a W Kc Q else Kc (a.put o.dst undef) W :=
 Kd.R_append_rows_step (kFo W0) (w0 := W) base hw s x 23 27 (.slice none 0 0) 24 ho underRwSS infoRwS rfl (show 0 < 1 from Nat.zero_lt_one) (by omega) _ xs ys A m c ok (fun _ => False) rfl hx HO HR (fun _ _ hp => hp) (fun q hq => hq.elim) hfresh (Below.refl _ _) hbase (by omega) (fun v1 w1 h1 h2 h3 _ => h v1 w1 h1 h2 h3)
end
section
variable {ops : Array Oper} {rest : List Oper} {o : Oper} {a : Act} {Q : Exit → Act → World → Prop}
theorem appFo {W0 W : World} {base : Nat} {s x : Operand} {xs : List (List Rw)} {y : List Rw} {u : Value} {ok : Nat → Prop} (hgd : o.guard = none)
  (ho : o.op = .call { callee := .builtin .append, args := #[s, x], argTypes := #[23, 23] })
  (hx : a.eval x = .slice (some ⟨W.heap.size, 0, none⟩) 1 1) (HO : (kFo W0).R 27 W base ok (a.eval s) xs) (HM : (kFo W0).M W base (fun _ => False) y [u]) (hfresh : ∀ k, W.heap.size ≤ k → ok k) (hbase : base ≤ W.heap.size) (hl : xs.length < 3518437208000)
  (h : ∀ v1 w1, (kFo W0).R 27 w1 base ok v1 (xs ++ [y]) → Below base W w1 → W.grownBy w1 (a.eval s).ownBlock → wpList Tryz.prog ops Q rest (a.put o.dst v1) w1) :
  wpList Tryz.prog ops Q (o :: rest) a (W.alloc (.cells #[u] 27)) :=
 Kd.R_append (kFo W0) (w0 := W) base hgd s x 23 27 (.slice none 0 0) 24 ho underRwSS infoRwS rfl (show 0 < 1 from Nat.zero_lt_one) (by omega) _ xs y [u] ok (fun _ => False) rfl hx HM (fun q hq => hq.elim) hfresh HO (Below.refl _ _) hbase (by omega) (fun v1 w1 h1 h2 h3 _ => h v1 w1 h1 h2 h3)
end
theorem join_noI {w w' : World} {ls : List (List Rw)} {f : List Tm} {k : Int} (h : joinB ls f k = false) (hb : Below w.heap.size w w') : SpQ w (joinL ls f k) (joinF ls f k) (joinB ls f k) (.returned (.tuple #[.agg #[.slice none 0 0, .slice none 0 0], .bool false])) w' := by
 rw [h, (join_no h).1, (join_no h).2]
 exact ⟨_, _, rfl, ⟨Kd.S_nil _ _ _ _ _, Kd.R_nil _ _ _ _ _⟩, hb⟩
theorem join_yesI {w w' : World} {ls : List (List Rw)} {f : List Tm} {k : Int} {a b : Value} (h : joinB ls f k = true) (ht : SpO w' w.heap.size a b (joinAt ls f k.toNat) f) (hb : Below w.heap.size w w') : SpQ w (joinL ls f k) (joinF ls f k) (joinB ls f k) (.returned (.tuple #[.agg #[a, b], .bool true])) w' := by
 unfold joinL joinF
 rw [if_pos h, if_pos h, h]
 exact ⟨a, b, rfl, ht, hb⟩
theorem SpO.far {w : World} {base T : Nat} {a b : Value} {ls : List (List Rw)} {f : List Tm} (h : SpO w base a b ls f) (hT : T < base) (j : Nat) (u : Value) : SpO (w.setCell ⟨T, j, none⟩ u) base a b ls f :=
 ⟨Kd.S_mono (Kd.S_far (Kd.S_bound h.1) (p := ⟨T, j, none⟩) (fun k hk e => by have h1 := hk.2.1; have h2 : k = T := e; omega) u) (fun _ _ => trivial), Kd.R_mono (Kd.R_far (Kd.R_bound h.2) (p := ⟨T, j, none⟩) (fun k hk e => by have h1 := hk.2.1; have h2 : k = T := e; omega) u) (fun _ _ => trivial)⟩
theorem SpO.lower {w : World} {base base' : Nat} {a b : Value} {ls : List (List Rw)} {f : List Tm} (h : SpO w base a b ls f) (hb : base' ≤ base) : SpO w base' a b ls f := ⟨Kd.S_lower h.1 hb, Kd.R_lower h.2 hb⟩
theorem rowsOk_fitM {f : List Tm} {l : List Rw} (hf : ∀ u ∈ f, tOk u = true) (hl : ∀ r ∈ l, rowOk r = true) : RwFit ((sum l).map (mv f)) := by
 refine RwFit.of fun r hr => ?_
 obtain ⟨y, hy, rfl⟩ := List.mem_map.1 hr
 obtain ⟨x, hx, e⟩ := sum_from y hy
 have h1 := rowOk_in (hl x hx)
 obtain ⟨e1, e2, e3⟩ := sameR_eq e
 have ht : tOk y.f2 = true := by rw [← e3]; exact rowOk_tm (hl x hx)
 have hm := (moved_ok hf ht).1
 have h3 := sum_inR (fun z hz => by have := rowOk_in (hl z hz); unfold inR; omega) y hy
 unfold inR at h3
 simp only [tOk, Bool.and_eq_true, decide_eq_true_eq] at hm
 show (-1000000000000 ≤ y.f0 ∧ y.f0 ≤ 1000000000000) ∧ (-1000000000000 ≤ y.f1 ∧ y.f1 ≤ 1000000000000) ∧ (-1000000000000 ≤ (moved f y.f2).f0 ∧ (moved f y.f2).f0 ≤ 1000000000000) ∧ (-1000000000000 ≤ (moved f y.f2).f1 ∧ (moved f y.f2).f1 ≤ 1000000000000) ∧ (-9223372036854775808 ≤ y.f3 ∧ y.f3 ≤ 9223372036854775807)
 omega
def tb_impl_SpineJoin_3.T : Bool × List (List Nat × List Nat) := (true, [([], []), ([0], [0]), ([], []), ([1, 2], [1, 2]), ([3], [3]), ([], []), ([5], [5]), ([], []), ([7], [7]), ([6, 8], [6, 8]), ([9], [9]), ([4, 10], [4, 10]), ([11, 11], [11]), ([], []), ([13], [13]), ([12, 14, 12], [12, 14]), ([15, 15], [15]), ([16], [16]), ([17], [17]), ([17], [17]), ([18, 16, 0, 1, 2, 3, 4, 5, 6, 7, 8, 9, 10, 11, 12, 13, 14, 15, 16, 17, 18], [18]), ([19, 20, 0, 1, 2, 3, 4, 5, 6, 7, 8, 9, 10, 11, 12, 13, 14, 15, 16, 17, 18, 19, 20], [19])])
def tb_impl_SpineJoin_3.B : List Nat := [0, 1, 0, 7, 15, 0, 32, 0, 128, 480, 992, 2047, 4095, 0, 8192, 32767, 65535, 131071, 262143, 262143, 524287, 2097151]
theorem tb_impl_SpineJoin_3.tab : rtab .any (opsOf Tryz.f18 3) = tb_impl_SpineJoin_3.T := by kernel_rfl
theorem tb_impl_SpineJoin_3.bits : waitsOk tb_impl_SpineJoin_3.T.2 tb_impl_SpineJoin_3.B = true := by kernel_rfl
def tb_impl_SpineJoin_7.T : Bool × List (List Nat × List Nat) := (true, [([], []), ([0], [0]), ([], []), ([2], [2]), ([], []), ([3, 4], [3, 4]), ([1, 5], [1, 5]), ([0, 1, 2, 3, 4, 5, 6], []), ([7, 6, 6, 0, 1, 2, 3, 4, 5, 6], [6, 7])])
def tb_impl_SpineJoin_7.B : List Nat := [0, 1, 0, 4, 0, 28, 63, 127, 255]
theorem tb_impl_SpineJoin_7.tab : rtab .any (opsOf Tryz.f18 7) = tb_impl_SpineJoin_7.T := by kernel_rfl
theorem tb_impl_SpineJoin_7.bits : waitsOk tb_impl_SpineJoin_7.T.2 tb_impl_SpineJoin_7.B = true := by kernel_rfl
def tb_impl_SpineJoin_9.T : Bool × List (List Nat × List Nat) := (true, [([], []), ([0], [0]), ([], []), ([2], [2]), ([], []), ([4], [4]), ([3, 5], [3, 5]), ([1, 6], [1, 6]), ([0, 1, 2, 3, 4, 5, 6, 7], []), ([8, 7, 7, 0, 1, 2, 3, 4, 5, 6, 7], [7, 8])])
def tb_impl_SpineJoin_9.B : List Nat := [0, 1, 0, 4, 0, 16, 60, 127, 255, 511]
theorem tb_impl_SpineJoin_9.tab : rtab .any (opsOf Tryz.f18 9) = tb_impl_SpineJoin_9.T := by kernel_rfl
theorem tb_impl_SpineJoin_9.bits : waitsOk tb_impl_SpineJoin_9.T.2 tb_impl_SpineJoin_9.B = true := by kernel_rfl
set_option maxRecDepth 100000 in
set_option maxHeartbeats 4000000 in
theorem impl_SpineJoin (u v : Value) (ls : List (List Rw)) (f : List Tm) (k : Int) (w : World) (h : SpS w u v ls f) (hb : SpB ls f) : Calls Tryz.prog 18 #[.agg #[u, v], .int .i64 k] w (SpQ w (joinL ls f k) (joinF ls f k) (joinB ls f k)) := by
 have HS := Aside0.mk h
 have HSw := Aside0.mk h
 obtain ⟨⟨A, c, rfl, hc, hr⟩, A2, c2, rfl, hc2, hr2⟩ := h
 have hm1 := Kd.C_max hr
 have HR := Aside0.mk hr
 clear hr hr2
 have HB := Aside0.mk (Below.refl w.heap.size w)
 go_enter Tryz.func18, Tryz.ntmps18
 go_upto_region 1 with fail
 refine name_world fun W0 hW0 => ?_
 have hb0 : Below w.heap.size w W0 := hW0 ▸ below_alloc (below_alloc (Below.refl _ _) _) _
 have K0 : W0.heap[w.heap.size]? = some (.cells #[.slice A ls.length c, .slice A2 f.length c2] 26 (0, 0)) := by rw [hW0]; exact (blk_alloc (blk_new w _) _)
 obtain ⟨T, hT⟩ : ∃ T, T = w.heap.size + 1 := ⟨_, rfl⟩
 have T0 : W0.heap[T]? = some (.cells #[.slice none 0 0, .slice none 0 0] 26 (0, 0)) := by rw [hW0, hT]; have := blk_new (w.alloc (.cells #[.slice A ls.length c, .slice A2 f.length c2] 26 (0, 0))) (.cells #[.slice none 0 0, .slice none 0 0] 26 (0, 0)); simpa using this
 have hT2 : w.heap.size ≤ T := by omega
 have HK := Aside0.mk K0
 have HT := Aside0.mk T0
 have hne : w.heap.size ≠ T := by omega
 try rw [← hT]
 clear hW0 hT K0 T0
 replace HB := Aside0.mk hb0
 replace HS := Aside0.mk (HS.out.below hb0)
 have HS1 : Aside0 (Sl (Kd.slice 60 kRw) W0 (.slice A ls.length c) ls) := ⟨HS.out.1⟩
 have HS2 : Aside0 (Sl kTm W0 (.slice A2 f.length c2) f) := ⟨HS.out.2⟩
 clear hb0
 have k0 := blk_cell HK.out 0
 have k1 := blk_cell HK.out 1
 have hlm : ls.length ≤ 281474976710656 := by have := hb.l; omega
 have hml : (ls.length : Int) ≤ 1048576 := by have := hb.l; omega
 by_cases hgo : spineOk ls f = true ∧ 0 ≤ k ∧ k < (ls.length : Int) - 1
 case neg =>
  have HJ := Aside0.mk (show joinB ls f k = false by
   cases h : joinB ls f k
   ·rfl
   ·obtain ⟨g0, ⟨g1, g2⟩, _⟩ := joinB_iff.1 h
    exact absurd ⟨spineOk_iff.2 g0, g1, by omega⟩ hgo)
  have hbad : spineOk ls f = false ∨ (spineOk ls f = true ∧ k < 0) ∨ (spineOk ls f = true ∧ 0 ≤ k ∧ (ls.length : Int) - 1 ≤ k) := by
   cases hs : spineOk ls f
   ·exact .inl rfl
   ·by_cases h0 : 0 ≤ k
    ·exact .inr (.inr ⟨rfl, h0, Int.not_lt.1 (fun h => hgo ⟨hs, h0, h⟩)⟩)
    ·exact .inr (.inl ⟨rfl, by omega⟩)
  clear hgo
  rcases hbad with hs | ⟨hs, hk⟩ | ⟨hs, hk, hk2⟩
  case' inr.inl => have q0 : decide (k < 0) = true := decide_eq_true hk
  case' inr.inr =>
   have q0 : decide (k < 0) = false := decide_eq_false (by omega)
   have q1 : decide ((ls.length : Int) - 1 ≤ k) = true := decide_eq_true hk2
  all_goals
   go_wp2_with (go_at_call 16; ((with_reducible refine (impl_SpineOk (.slice A ls.length c) (.slice A2 f.length c2) ls f _ HS1.out HS2.out hlm).mono ?_); rintro e w' ⟨rfl, hbb⟩; replace HT := Aside0.mk (blk_below HT.out hbb); replace HK := Aside0.mk (blk_below HK.out hbb); replace HB := Aside0.mk (bthen HB.out hbb); replace k0 := blk_cell HK.out 0; have z0 := blk_cell HT.out 0; have z1 := blk_cell HT.out 1; have zf0 := blk_frozen HT.out 0; have zf1 := blk_frozen HT.out 1; clear hbb))
   refine bodyPost_ret (results_ct rfl _ _ T 26 #[.slice none 0 0, .slice none 0 0] (0, 0) _ rfl (blk2 HT.out _ _) Tryz.underlying26 rfl (by kernel_rfl)) rfl ?_
   exact join_noI HJ.out (below_set (below_set HB.out hT2) hT2)
 obtain ⟨hs, hk0, hk1⟩ := hgo
 have hso := spineOk_iff.1 hs
 have hfew := hso.few
 obtain ⟨n, hn⟩ : ∃ n : Nat, k = n := ⟨k.toNat, by omega⟩
 subst hn
 have hn1 : n + 1 < ls.length := by omega
 have hnl : ([] : List (List Rw)).length + n < 3518437208000 := by simp only [List.length_nil]; omega
 have H15 := Aside0.mk (show ((n : Int) + 2).toNat = n + 2 by omega)
 have H14 := Aside0.mk (show n + 2 ≤ ls.length ∧ (n : Int) + 2 ≤ (ls.length : Int) ∧ (0 : Int) ≤ (n : Int) + 2 ∧ wrap64 ((n : Int) + 2) = (n : Int) + 2 ∧ n + 1 + (ls.length - (n + 2)) < 3518437208000 from ⟨hn1, by omega, by omega, by unfold wrap64; omega, by omega⟩)
 have i4 : n < ls.length := Nat.lt_of_succ_lt hn1
 obtain ⟨ad, B0, d0, e8, L0, HL0⟩ := rdLay HR.out (show n < ls.length by omega)
 cases e8
 obtain ⟨ad', B1, d1, e9, L1, HL1⟩ := rdLay HR.out (show n + 1 < ls.length by omega)
 cases e9
 have q0 : decide ((n : Int) < 0) = false := decide_eq_false (by omega)
 have q1 : decide ((ls.length : Int) - 1 ≤ (n : Int)) = false := decide_eq_false (by omega)
 have hl0 : (lay ls n).length ≤ 400 := (rowsOk_all (batchOk_rows (hso.lay _ (lay_mem i4)))).1
 have hl1 : (lay ls (n + 1)).length ≤ 400 := (rowsOk_all (batchOk_rows (hso.lay _ (lay_mem hn1)))).1
 have HOK := Aside0.mk (show ∀ r ∈ lay ls n ++ lay ls (n + 1), rowOk r = true from fun r hr => (List.mem_append.1 hr).elim (fun h => (rowsOk_all (batchOk_rows (hso.lay _ (lay_mem i4)))).2 r h) (fun h => (rowsOk_all (batchOk_rows (hso.lay _ (lay_mem hn1)))).2 r h))
 have HJI := Aside0.mk (@joinB_iff ls f (n : Int))
 have HJO := Aside0.mk (fun (h : batchOk (oneL f (lay ls n) (lay ls (n + 1))) = true) => joinAt_ok hso hn1 h)
 generalize hla : lay ls n = la at *
 generalize hlb : lay ls (n + 1) = lb at *
 have HL := Aside0.mk (And.intro hla hlb)
 clear hla hlb
 go_upto_region 3 with (go_at_call 16; ((with_reducible refine (impl_SpineOk (.slice (some ad) ls.length c) (.slice A2 f.length c2) ls f _ HS1.out HS2.out hlm).mono ?_); rintro e W1 ⟨rfl, hbb⟩; replace HT := Aside0.mk (blk_below HT.out hbb); replace HK := Aside0.mk (blk_below HK.out hbb); replace HS := Aside0.mk (HS.out.below hbb); replace HB := Aside0.mk (bthen HB.out hbb); replace k0 := blk_cell HK.out 0; replace k1 := blk_cell HK.out 1; clear hbb HS1 HS2))
 have HBD := Aside0.mk (below_drew HB.out)
 have HSF : Aside0 (Sl kTm w (.slice A2 f.length c2) f) := ⟨HSw.out.2⟩
 have x0 : W1.drew.cell? ⟨w.heap.size, 0, none⟩ = some (.slice (some ad) ls.length c) := k0
 have x1 : W1.drew.cell? ⟨w.heap.size, 1, none⟩ = some (.slice A2 f.length c2) := k1
 have x2 : W1.drew.cell? (ad.add n) = some (.slice B0 la.length d0) := pw_cell_below HBD.out L0
 have x3 : W1.drew.cell? ⟨ad.block, ad.off + (n + 1), none⟩ = some (.slice B1 lb.length d1) := pw_cell_below HBD.out L1
 have ew : wrap64 ((n : Int) + 1) = (n : Int) + 1 := wnext (m := ls.length) i4 (Nat.le_trans hfew (by decide))
 have i0 : (0 : Int) ≤ (n : Int) := Int.natCast_nonneg n
 have i1 : (n : Int) < (ls.length : Int) := Int.ofNat_lt.2 i4
 have i2 : (0 : Int) ≤ (n : Int) + 1 := Int.natCast_nonneg (n + 1)
 have i3 : (n : Int) + 1 < (ls.length : Int) := Int.ofNat_lt.2 hn1
 have hl2 : la.length + lb.length ≤ 1000000 := by omega
 have hl3 : (la ++ lb).length < 1099511627776 := by rw [List.length_append]; omega
 have hls := sum_len (la ++ lb)
 have hl5 : (sum (la ++ lb)).length ≤ 1000000 := by rw [List.length_append] at hls; omega
 have hl6 : ((sum (la ++ lb)).map (mv f)).length ≤ 1000000 := by rw [List.length_map]; exact hl5
 have HFT := Aside0.mk (rowsOk_fit HOK.out)
 have HF5 := Aside0.mk (rowsOk_fitM hso.frontT HOK.out)
 clear k0 k1 L0 L1 hls
 refine start_ (n := 22) (S := fun w' => w'.cell? ⟨w.heap.size, 0, none⟩ = some (.slice (some ad) ls.length c) ∧ w'.cell? ⟨w.heap.size, 1, none⟩ = some (.slice A2 f.length c2) ∧ w'.cell? (ad.add n) = some (.slice B0 la.length d0) ∧ w'.cell? ⟨ad.block, ad.off + (n + 1), none⟩ = some (.slice B1 lb.length d1)) (ds := []) #[false, false, false, false, false, false, false, false, false, false, false, false, false, false, false, false, false, false, false, false, false, false] (by kernel_rfl) rfl rfl ⟨x0, x1, x2, x3⟩ (fun hHeld => ?_)
 refine with_tabW tb_impl_SpineJoin_3.tab tb_impl_SpineJoin_3.bits (fun HT_ HW_ => ?_)
 refine pure_ (i := 0) (N := some 26) (v := ?_) (a' := ?_) #[true, false, false, false, false, false, false, false, false, false, false, false, false, false, false, false, false, false, false, false, false, false] rfl rfl (any_of HT_.out (by kernel_rfl)) (fun _ _ _ h => h) (Or.inl ⟨by rfl, ?_⟩) ?_ ?_
 rotate_left
 ·intro w'
  go_simp
  with_reducible rfl
 rotate_left
 ·simp only [Act.put, setIfInBounds_toArray, set_cons_zero, set_cons_succ, i64_w]
  rfl
 refine pure_ (i := 2) (N := some 28) (v := ?_) (a' := ?_) #[true, false, true, false, false, false, false, false, false, false, false, false, false, false, false, false, false, false, false, false, false, false] rfl rfl (any_of HT_.out (by kernel_rfl)) (fun _ _ _ h => h) (Or.inl ⟨by rfl, ?_⟩) ?_ ?_
 rotate_left
 ·intro w'
  go_simp
  with_reducible rfl
 rotate_left
 ·simp only [Act.put, setIfInBounds_toArray, set_cons_zero, set_cons_succ, i64_w]
  rfl
 refine pure_ (i := 5) (N := some 31) (v := ?_) (a' := ?_) #[true, false, true, false, false, true, false, false, false, false, false, false, false, false, false, false, false, false, false, false, false, false] rfl rfl (any_of HT_.out (by kernel_rfl)) (fun _ _ _ h => h) (Or.inl ⟨by rfl, ?_⟩) ?_ ?_
 rotate_left
 ·intro w'
  go_simp
  with_reducible rfl
 rotate_left
 ·simp only [Act.put, setIfInBounds_toArray, set_cons_zero, set_cons_succ, i64_w]
  rfl
 refine pure_ (i := 7) (N := some 33) (v := ?_) (a' := ?_) #[true, false, true, false, false, true, false, true, false, false, false, false, false, false, false, false, false, false, false, false, false, false] rfl rfl (any_of HT_.out (by kernel_rfl)) (fun _ _ _ h => h) (Or.inl ⟨by rfl, ?_⟩) ?_ ?_
 rotate_left
 ·intro w'
  go_simp
  with_reducible rfl
 rotate_left
 ·simp only [Act.put, setIfInBounds_toArray, set_cons_zero, set_cons_succ, i64_w]
  rfl
 refine pure_ (i := 8) (N := some 34) (v := ?_) (a' := ?_) #[true, false, true, false, false, true, false, true, true, false, false, false, false, false, false, false, false, false, false, false, false, false] rfl rfl (any_of HT_.out (by kernel_rfl)) (fun _ _ _ h => h) (Or.inl ⟨by rfl, ?_⟩) ?_ ?_
 rotate_left
 ·intro w'
  go_simp
  with_reducible rfl
 rotate_left
 ·simp only [Act.put, setIfInBounds_toArray, set_cons_zero, set_cons_succ, i64_w]
  rfl
 refine pure_ (i := 13) (N := some 39) (v := ?_) (a' := ?_) #[true, false, true, false, false, true, false, true, true, false, false, false, false, true, false, false, false, false, false, false, false, false] rfl rfl (any_of HT_.out (by kernel_rfl)) (fun _ _ _ h => h) (Or.inl ⟨by rfl, ?_⟩) ?_ ?_
 rotate_left
 ·intro w'
  go_simp
  with_reducible rfl
 rotate_left
 ·simp only [Act.put, setIfInBounds_toArray, set_cons_zero, set_cons_succ, i64_w]
  rfl
 refine take_ (i := 1) (N := some 27) (v := ?_) (a' := ?_) #[true, true, true, false, false, true, false, true, true, false, false, false, false, true, false, false, false, false, false, false, false, false] rfl rfl (take_ofW HT_.out HW_.out (by kernel_rfl)) (fun _ _ _ h => h) (Or.inl ⟨by rfl, ?_⟩) hHeld ?_ ?_
 rotate_left
 ·rintro w' ⟨s0, s1, s2, s3⟩
  go_simp
  with_reducible rfl
 rotate_left
 ·simp only [Act.put, setIfInBounds_toArray, set_cons_zero, set_cons_succ, i64_w]
  rfl
 refine pure_ (i := 3) (N := some 29) (v := ?_) (a' := ?_) #[true, true, true, true, false, true, false, true, true, false, false, false, false, true, false, false, false, false, false, false, false, false] rfl rfl (any_of HT_.out (by kernel_rfl)) (fun _ _ _ h => h) (Or.inl ⟨by rfl, ?_⟩) ?_ ?_
 rotate_left
 ·intro w'
  go_simp
  with_reducible rfl
 rotate_left
 ·simp only [Act.put, setIfInBounds_toArray, set_cons_zero, set_cons_succ, i64_w]
  rfl
 refine take_ (i := 4) (N := some 30) (v := ?_) (a' := ?_) #[true, true, true, true, true, true, false, true, true, false, false, false, false, true, false, false, false, false, false, false, false, false] rfl rfl (take_ofW HT_.out HW_.out (by kernel_rfl)) (fun _ _ _ h => h) (Or.inl ⟨by rfl, ?_⟩) hHeld ?_ ?_
 rotate_left
 ·rintro w' ⟨s0, s1, s2, s3⟩
  go_simp
  with_reducible rfl
 rotate_left
 ·simp only [Act.put, setIfInBounds_toArray, set_cons_zero, set_cons_succ, i64_w]
  rfl
 refine take_ (i := 6) (N := some 32) (v := ?_) (a' := ?_) #[true, true, true, true, true, true, true, true, true, false, false, false, false, true, false, false, false, false, false, false, false, false] rfl rfl (take_ofW HT_.out HW_.out (by kernel_rfl)) (fun _ _ _ h => h) (Or.inl ⟨by rfl, ?_⟩) hHeld ?_ ?_
 rotate_left
 ·rintro w' ⟨s0, s1, s2, s3⟩
  go_simp
  with_reducible rfl
 rotate_left
 ·simp only [Act.put, setIfInBounds_toArray, set_cons_zero, set_cons_succ, i64_w]
  rfl
 refine pure_ (i := 9) (N := some 35) (v := ?_) (a' := ?_) #[true, true, true, true, true, true, true, true, true, true, false, false, false, true, false, false, false, false, false, false, false, false] rfl rfl (any_of HT_.out (by kernel_rfl)) (fun _ _ _ h => h) (Or.inl ⟨by rfl, ?_⟩) ?_ ?_
 rotate_left
 ·intro w'
  go_simp
  with_reducible rfl
 rotate_left
 ·simp only [Act.put, setIfInBounds_toArray, set_cons_zero, set_cons_succ, i64_w]
  rfl
 refine take_ (i := 10) (N := some 36) (v := ?_) (a' := ?_) #[true, true, true, true, true, true, true, true, true, true, true, false, false, true, false, false, false, false, false, false, false, false] rfl rfl (take_ofW HT_.out HW_.out (by kernel_rfl)) (fun _ _ _ h => h) (Or.inl ⟨by rfl, ?_⟩) hHeld ?_ ?_
 rotate_left
 ·rintro w' ⟨s0, s1, s2, s3⟩
  go_simp
  with_reducible rfl
 rotate_left
 ·simp only [Act.put, setIfInBounds_toArray, set_cons_zero, set_cons_succ, i64_w]
  rfl
 refine take_ (i := 14) (N := some 40) (v := ?_) (a' := ?_) #[true, true, true, true, true, true, true, true, true, true, true, false, false, true, true, false, false, false, false, false, false, false] rfl rfl (take_ofW HT_.out HW_.out (by kernel_rfl)) (fun _ _ _ h => h) (Or.inl ⟨by rfl, ?_⟩) hHeld ?_ ?_
 rotate_left
 ·rintro w' ⟨s0, s1, s2, s3⟩
  go_simp
  with_reducible rfl
 rotate_left
 ·simp only [Act.put, setIfInBounds_toArray, set_cons_zero, set_cons_succ, i64_w]
  rfl
 refine one_ (i := 11) (N := some 37) #[true, true, true, true, true, true, true, true, true, true, true, true, false, true, true, false, false, false, false, false, false, false] rfl rfl (one_of HT_.out (by kernel_rfl)) (by decide) (fun K hK => ?_)
 refine goes_ Tryz.func49 (by kernel_rfl) rfl #[.slice B0 la.length d0, .slice B1 lb.length d1] (by rfl) rfl rfl (by simp only [List.map_toArray, List.map_cons, List.map_nil]; rfl) ?_
 with_reducible refine (impl_together _ _ la lb _ (HL0.below HBD.out) (HL1.below HBD.out) hl2).mono ?_
 rintro e w3 ⟨v3, rfl, hr3, hb3⟩
 refine ⟨_, rfl, ?_⟩
 have H3 := Aside0.mk (Sl.of_R hr3)
 have hw3 : Below W1.heap.size W1 w3 := bthen (below_drew (Below.refl _ _)) hb3
 clear hr3
 refine hK.out _ _ ⟨pw_cell_below hb3 x0, pw_cell_below hb3 x1, pw_cell_below hb3 x2, pw_cell_below hb3 x3⟩ (fun hHeld => ?_)
 clear hK K
 refine norm_ (a' := ?_) ?_ ?_
 rotate_left
 ·show Act.put _ (some 37) _ = _
  simp only [Act.put, setIfInBounds_toArray, set_cons_zero, set_cons_succ, i64_w]
  rfl
 refine one_ (i := 12) (N := some 38) #[true, true, true, true, true, true, true, true, true, true, true, true, true, true, true, false, false, false, false, false, false, false] rfl rfl (one_of HT_.out (by kernel_rfl)) (by decide) (fun K hK => ?_)
 refine goes_ Tryz.func48 (by kernel_rfl) rfl #[v3] (by rfl) rfl rfl (by simp only [List.map_toArray, List.map_cons, List.map_nil]; rfl) ?_
 with_reducible refine (impl_consolidated _ (la ++ lb) _ H3.out (RwFit.all HFT.out) hl3).mono ?_
 rintro e w4 ⟨v4, rfl, hr4, hb4⟩
 refine ⟨_, rfl, ?_⟩
 have H4 := Aside0.mk (Sl.of_R hr4)
 have hb4a := bthen hb3 hb4
 have hw4 : Below W1.heap.size W1 w4 := bthen hw3 hb4
 clear hr4
 refine hK.out _ _ ⟨pw_cell_below hb4a x0, pw_cell_below hb4a x1, pw_cell_below hb4a x2, pw_cell_below hb4a x3⟩ (fun hHeld => ?_)
 clear hK K
 refine norm_ (a' := ?_) ?_ ?_
 rotate_left
 ·show Act.put _ (some 38) _ = _
  simp only [Act.put, setIfInBounds_toArray, set_cons_zero, set_cons_succ, i64_w]
  rfl
 refine one_ (i := 15) (N := some 41) #[true, true, true, true, true, true, true, true, true, true, true, true, true, true, true, true, false, false, false, false, false, false] rfl rfl (one_of HT_.out (by kernel_rfl)) (by decide) (fun K hK => ?_)
 refine goes_ Tryz.func47 (by kernel_rfl) rfl #[v4, .slice A2 f.length c2] (by rfl) rfl rfl (by simp only [List.map_toArray, List.map_cons, List.map_nil]; rfl) ?_
 with_reducible refine (impl_advanced _ _ (sum (la ++ lb)) f _ H4.out ((HSF.out.below HB.out).below hw4) hl5).mono ?_
 rintro e w5 ⟨v5, rfl, hr5, hb5⟩
 refine ⟨_, rfl, ?_⟩
 have H5 := Aside0.mk (Sl.of_R hr5)
 have hb5a := bthen hb4a hb5
 have hw5 : Below W1.heap.size W1 w5 := bthen hw4 hb5
 clear hr5
 refine hK.out _ _ ⟨pw_cell_below hb5a x0, pw_cell_below hb5a x1, pw_cell_below hb5a x2, pw_cell_below hb5a x3⟩ (fun hHeld => ?_)
 clear hK K
 refine norm_ (a' := ?_) ?_ ?_
 rotate_left
 ·show Act.put _ (some 41) _ = _
  simp only [Act.put, setIfInBounds_toArray, set_cons_zero, set_cons_succ, i64_w]
  rfl
 refine one_ (i := 16) (N := some 42) #[true, true, true, true, true, true, true, true, true, true, true, true, true, true, true, true, true, false, false, false, false, false] rfl rfl (one_of HT_.out (by kernel_rfl)) (by decide) (fun K hK => ?_)
 refine goes_ Tryz.func46 (by kernel_rfl) rfl #[v5] (by rfl) rfl rfl (by simp only [List.map_toArray, List.map_cons, List.map_nil]; rfl) ?_
 with_reducible refine (impl_batch _ ((sum (la ++ lb)).map (mv f)) _ H5.out HF5.out hl6).mono ?_
 rintro e w6 ⟨v6, rfl, hr6, hb6⟩
 refine ⟨_, rfl, ?_⟩
 have H6 := Aside0.mk hr6
 have hb6a := bthen hb5a hb6
 have hw6 : Below W1.heap.size W1 w6 := bthen hw5 hb6
 clear hr6
 refine hK.out _ _ ⟨pw_cell_below hb6a x0, pw_cell_below hb6a x1, pw_cell_below hb6a x2, pw_cell_below hb6a x3⟩ (fun hHeld => ?_)
 clear hK K
 refine norm_ (a' := ?_) ?_ ?_
 rotate_left
 ·show Act.put _ (some 42) _ = _
  simp only [Act.put, setIfInBounds_toArray, set_cons_zero, set_cons_succ, i64_w]
  rfl
 refine pure_ (i := 17) (N := some 25) (v := ?_) (a' := ?_) #[true, true, true, true, true, true, true, true, true, true, true, true, true, true, true, true, true, true, false, false, false, false] rfl rfl (any_of HT_.out (by kernel_rfl)) (fun _ _ _ h => h) (Or.inl ⟨by rfl, ?_⟩) ?_ ?_
 rotate_left
 ·intro w'
  go_simp
  with_reducible rfl
 rotate_left
 ·simp only [Act.put, setIfInBounds_toArray, set_cons_zero, set_cons_succ, i64_w]
  rfl
 refine pure_ (i := 18) (N := some 43) (v := ?_) (a' := ?_) #[true, true, true, true, true, true, true, true, true, true, true, true, true, true, true, true, true, true, true, false, false, false] rfl rfl (any_of HT_.out (by kernel_rfl)) (fun _ _ _ h => h) (Or.inl ⟨by rfl, ?_⟩) ?_ ?_
 rotate_left
 ·intro w'
  go_simp
  with_reducible rfl
 rotate_left
 ·simp only [Act.put, setIfInBounds_toArray, set_cons_zero, set_cons_succ, i64_w]
  rfl
 refine pure_ (i := 19) (N := some 44) (v := ?_) (a' := ?_) #[true, true, true, true, true, true, true, true, true, true, true, true, true, true, true, true, true, true, true, true, false, false] rfl rfl (any_of HT_.out (by kernel_rfl)) (fun _ _ _ h => h) (Or.inl ⟨by rfl, ?_⟩) ?_ ?_
 rotate_left
 ·intro w'
  go_simp
  with_reducible rfl
 rotate_left
 ·simp only [Act.put, setIfInBounds_toArray, set_cons_zero, set_cons_succ, i64_w]
  rfl
 refine pure_ (i := 20) (N := some 6) (v := ?_) (a' := ?_) #[true, true, true, true, true, true, true, true, true, true, true, true, true, true, true, true, true, true, true, true, true, false] rfl rfl (any_of HT_.out (by kernel_rfl)) (fun _ _ _ h => h) (Or.inl ⟨by rfl, ?_⟩) ?_ ?_
 rotate_left
 ·intro w'
  go_simp
  with_reducible rfl
 rotate_left
 ·simp only [Act.put, setIfInBounds_toArray, set_cons_zero, set_cons_succ, i64_w]
  rfl
 refine pure_ (i := 21) (N := some 7) (v := ?_) (a' := ?_) #[true, true, true, true, true, true, true, true, true, true, true, true, true, true, true, true, true, true, true, true, true, true] rfl rfl (any_of HT_.out (by kernel_rfl)) (fun _ _ _ h => h) (Or.inl ⟨by rfl, ?_⟩) ?_ ?_
 rotate_left
 ·intro w'
  go_simp
  with_reducible rfl
 rotate_left
 ·simp only [Act.put, setIfInBounds_toArray, set_cons_zero, set_cons_succ, i64_w]
  rfl
 refine done_ (done_of HT_.out (by kernel_rfl)) ?_
 clear x0 x1 x2 x3 hHeld hb3 hb4a hb5a hb6a hw3 hw4 hw5 H3 H4 H5 HBD HL0 HL1
 have HW6 := Aside0.mk hw6
 replace HT := Aside0.mk (blk_below HT.out hw6)
 replace HK := Aside0.mk (blk_below HK.out hw6)
 replace HB := Aside0.mk (bthen HB.out hw6)
 clear hw6
 obtain ⟨one, hone⟩ : ∃ one, one = oneL f la lb := ⟨_, rfl⟩
 have HON := Aside0.mk hone
 have hone2 : one = sum ((sum (la ++ lb)).map (mv f)) := hone
 rw [← hone2] at H6 ⊢
 clear hone hone2
 cases hbo : batchOk one
 ·have HJ := Aside0.mk (show joinB ls f (n : Int) = false by
   cases h : joinB ls f (n : Int)
   ·rfl
   ·obtain ⟨_, _, g3⟩ := HJI.out.1 h
    rw [Int.toNat_natCast, HL.out.1, HL.out.2, ← HON.out, hbo] at g3
    cases g3)
  have z0 := blk_cell HT.out 0
  have z1 := blk_cell HT.out 1
  have zf0 := blk_frozen HT.out 0
  have zf1 := blk_frozen HT.out 1
  go_wp2
  refine bodyPost_ret (results_ct rfl _ _ T 26 #[.slice none 0 0, .slice none 0 0] (0, 0) _ rfl (blk2 HT.out _ _) Tryz.underlying26 rfl (by kernel_rfl)) rfl ?_
  exact join_noI HJ.out (below_set (below_set HB.out hT2) hT2)
 have HJ := Aside0.mk (show joinB ls f (n : Int) = true from HJI.out.2 ⟨hso, ⟨i0, by rw [Int.toNat_natCast]; exact hn1⟩, by rw [Int.toNat_natCast, HL.out.1, HL.out.2, ← HON.out]; exact hbo⟩)
 have HSJ := Aside0.mk (show spineOk (ls.take n ++ [one] ++ ls.drop (n + 2)) f = true by
  have := spineOk_iff.2 (HJO.out (by rw [← HON.out]; exact hbo))
  unfold joinAt at this
  rw [HL.out.1, HL.out.2, ← HON.out] at this
  rw [List.append_assoc]
  exact this)
 have HJA := Aside0.mk (show joinAt ls f n = ls.take n ++ [one] ++ ls.drop (n + 2) by
  unfold joinAt
  rw [HL.out.1, HL.out.2, ← HON.out, List.append_assoc]
  rfl)
 have hfit : fit one = one := fit_yes hbo
 rw [hfit] at H6
 obtain ⟨A6, c6, rfl⟩ := Kd.R_slice H6.out
 have k0 := blk_cell HK.out 0
 have k1 := blk_cell HK.out 1
 clear hfit hbo
 go_upto_region 7 with fail
 refine name_world fun W7 hW7 => ?_
 have hb7 : Below w6.heap.size w6 W7 := by rw [hW7]; repeat (with_reducible first | exact Below.refl _ _ | apply below_alloc | refine below_set ?_ (by simp))
 obtain ⟨Y, hY, hYW⟩ : ∃ Y, Y = w6.heap.size ∧ Y < W7.heap.size := ⟨_, rfl, by rw [hW7]; simp⟩
 have HY := Aside0.mk (show W7.heap[Y]? = some (.cells #[.slice none 0 0, .slice A2 f.length c2] 26 (0, 0)) by rw [hW7, hY]; first | exact blk_new _ _ | simp)
 have hTY : T < Y := by rw [hY]; exact blk_lt HT.out
 have HYe := Aside0.mk (And.intro (show w6.heap.size ≤ Y from Nat.le_of_eq hY.symm) (show w6.heap.size ≤ W7.heap.size from hb7.size))
 try rw [← hY]
 have HW7 := Aside0.mk (below_drew hb7)
 obtain ⟨-, h6c, hC6⟩ := Kd.R_reads' H6.out
 have HM6 := Aside0.mk (show (kFo w6).M W7 W7.heap.size (fun _ => False) one [.slice A6 one.length c6] from ⟨A6, c6, rfl, h6c, hC6⟩)
 have y0 : W7.drew.cell? ⟨Y, 0, none⟩ = some (.slice none 0 0) := blk_cell HY.out 0
 have x0 : W7.drew.cell? ⟨w.heap.size, 0, none⟩ = some (.slice (some ad) ls.length c) := blk_cell (blk_below HK.out hb7) 0
 clear hW7 hY hb7 k0 k1 H6 hC6
 have s0 : n ≤ c := Nat.le_trans (Nat.le_of_lt i4) hc
 have s1 : (n : Int) ≤ (c : Int) := Int.ofNat_le.2 s0
 have hln : (ls.take n).length = n := by rw [List.length_take]; exact Nat.min_eq_left (Nat.le_of_lt i4)
 have hln2 : (ls.take n ++ [one]).length = n + 1 := by rw [List.length_append, hln]; rfl
 have hnl2 : (ls.take n).length < 3518437208000 := by rw [hln]; have := hnl; rwa [List.length_nil, Nat.zero_add] at this
 refine start_ (n := 9) (S := fun w' => w'.cell? ⟨Y, 0, none⟩ = some (.slice none 0 0) ∧ w'.cell? ⟨w.heap.size, 0, none⟩ = some (.slice (some ad) ls.length c)) (ds := [8]) #[false, false, false, false, false, false, false, false, false] (by kernel_rfl) rfl rfl ⟨y0, x0⟩ (fun hHeld => ?_)
 refine with_tabW tb_impl_SpineJoin_7.tab tb_impl_SpineJoin_7.bits (fun HT_ HW_ => ?_)
 refine pure_ (i := 0) (N := some 51) (v := ?_) (a' := ?_) #[true, false, false, false, false, false, false, false, false] rfl rfl (any_of HT_.out (by kernel_rfl)) (fun _ _ _ h => h) (Or.inl ⟨by rfl, ?_⟩) ?_ ?_
 rotate_left
 ·intro w'
  go_simp
  with_reducible rfl
 rotate_left
 ·simp only [Act.put, setIfInBounds_toArray, set_cons_zero, set_cons_succ, i64_w]
  rfl
 refine pure_ (i := 2) (N := some 53) (v := ?_) (a' := ?_) #[true, false, true, false, false, false, false, false, false] rfl rfl (any_of HT_.out (by kernel_rfl)) (fun _ _ _ h => h) (Or.inl ⟨by rfl, ?_⟩) ?_ ?_
 rotate_left
 ·intro w'
  go_simp
  with_reducible rfl
 rotate_left
 ·simp only [Act.put, setIfInBounds_toArray, set_cons_zero, set_cons_succ, i64_w]
  rfl
 refine pure_ (i := 4) (N := some 55) (v := ?_) (a' := ?_) #[true, false, true, false, true, false, false, false, false] rfl rfl (any_of HT_.out (by kernel_rfl)) (fun _ _ _ h => h) (Or.inl ⟨by rfl, ?_⟩) ?_ ?_
 rotate_left
 ·intro w'
  go_simp
  with_reducible rfl
 rotate_left
 ·simp only [Act.put, setIfInBounds_toArray, set_cons_zero, set_cons_succ, i64_w]
  rfl
 refine take_ (i := 1) (N := some 52) (v := ?_) (a' := ?_) #[true, true, true, false, true, false, false, false, false] rfl rfl (take_ofW HT_.out HW_.out (by kernel_rfl)) (fun _ _ _ h => h) (Or.inl ⟨by rfl, ?_⟩) hHeld ?_ ?_
 rotate_left
 ·rintro w' ⟨s0, s1⟩
  go_simp
  with_reducible rfl
 rotate_left
 ·simp only [Act.put, setIfInBounds_toArray, set_cons_zero, set_cons_succ, i64_w]
  rfl
 refine take_ (i := 3) (N := some 54) (v := ?_) (a' := ?_) #[true, true, true, true, true, false, false, false, false] rfl rfl (take_ofW HT_.out HW_.out (by kernel_rfl)) (fun _ _ _ h => h) (Or.inl ⟨by rfl, ?_⟩) hHeld ?_ ?_
 rotate_left
 ·rintro w' ⟨s0, s1⟩
  go_simp
  with_reducible rfl
 rotate_left
 ·simp only [Act.put, setIfInBounds_toArray, set_cons_zero, set_cons_succ, i64_w]
  rfl
 refine pure_ (i := 5) (N := some 56) (v := ?_) (a' := ?_) #[true, true, true, true, true, true, false, false, false] rfl rfl (any_of HT_.out (by kernel_rfl)) (fun _ _ _ h => h) (Or.inl ⟨by rfl, ?_⟩) ?_ ?_
 rotate_left
 ·intro w'
  go_simp
  with_reducible rfl
 rotate_left
 ·simp only [Act.put, setIfInBounds_toArray, set_cons_zero, set_cons_succ, i64_w]
  rfl
 refine one_ (i := 6) (N := some 57) #[true, true, true, true, true, true, true, false, false] rfl rfl (one_of HT_.out (by kernel_rfl)) (by decide) (fun K hK => ?_)
 refine stepFo (W0 := w6) (W := W7.drew) (base := W7.heap.size) (xs := []) (ys := ls.take n) (A := some ad) (m := n) (c := c) (ok := okT) rfl rfl rfl (Kd.R_nil _ _ _ _ _) (rr_take (foRead HR.out HB.out (bthen HB.out HW7.out) _) (Nat.le_of_lt i4)) (fun _ _ => trivial) (Nat.le_refl _) hnl ?_
 intro v8 w8 hr8 hb8 hg8
 rw [List.nil_append] at hr8
 obtain ⟨A8, c8, e8⟩ := Kd.R_slice hr8
 rw [hln] at e8
 subst e8
 have HV8 := Aside0.mk hr8
 have HW8 := Aside0.mk (below_more HW7.out (hb8.mono HYe.out.2))
 have HS8 := Aside0.mk (show W7.heap.size ≤ w8.heap.size from hb8.size)
 have HY8 := Aside0.mk ((hb8.block Y hYW).trans HY.out)
 have yy0 := blk_cell HY8.out 0
 have xx0 : w8.cell? ⟨w.heap.size, 0, none⟩ = some (.slice (some ad) ls.length c) := blk_cell (blk_below HK.out (HW8.out)) 0
 have yf0 := blk_frozen HY8.out 0
 clear hr8 hb8 hg8
 refine hK.out _ _ ⟨yy0, xx0⟩ (fun hHeld => ?_)
 clear hK K
 refine norm_ (a' := ?_) ?_ ?_
 rotate_left
 ·show Act.put _ (some 57) _ = _
  simp only [Act.put, setIfInBounds_toArray, set_cons_zero, set_cons_succ, i64_w]
  rfl
 refine pure_ (i := 7) (N := some 58) (v := ?_) (a' := ?_) #[true, true, true, true, true, true, true, true, false] rfl rfl (any_of HT_.out (by kernel_rfl)) (fun _ _ _ h => h) (Or.inl ⟨by rfl, ?_⟩) ?_ ?_
 rotate_left
 ·intro w'
  go_simp
  with_reducible rfl
 rotate_left
 ·simp only [Act.put, setIfInBounds_toArray, set_cons_zero, set_cons_succ, i64_w]
  rfl
 refine last_ (i := 8) (N := none) #[true, true, true, true, true, true, true, true, true] rfl rfl (one_of HT_.out (by kernel_rfl)) (by decide) (fun K hK => ?_)
 refine skip_ (w1 := ?_) (by rfl) rfl ?_ ?_
 rotate_left
 ·go_simp
  rfl
 refine hK.out _ _ ?_
 clear hK K
 refine done_ (done_of HT_.out (by kernel_rfl)) ?_
 have hy8 := blk_set HY8.out 0 (.slice A8 n c8)
 have hv8 := Kd.R_mono (Kd.R_far (Kd.R_bound HV8.out) (p := ⟨Y, 0, none⟩) (fun k hk e => Nat.lt_irrefl _ (Nat.lt_of_lt_of_le hYW (by have h1 := hk.2.1; rwa [show k = Y from e] at h1))) (.slice A8 n c8)) (ok' := okT) (fun _ _ => trivial)
 have hw8 := below_set (g := Y) (j := 0) (v := .slice A8 n c8) HW8.out HYe.out.1
 have hs8 : W7.heap.size ≤ (w8.setCell ⟨Y, 0, none⟩ (.slice A8 n c8)).heap.size := by simpa using (Nat.le_of_lt_succ (Nat.lt_succ_of_le (show W7.heap.size ≤ w8.heap.size from HS8.out)))
 obtain ⟨wd, hwd⟩ : ∃ wd, wd = w8.setCell ⟨Y, 0, none⟩ (.slice A8 n c8) := ⟨_, rfl⟩
 rw [← hwd] at hy8 hv8 hw8 hs8 ⊢
 have HYD : Aside0 (wd.heap[Y]? = some (.cells #[.slice A8 n c8, .slice A2 f.length c2] 26 (0, 0))) := ⟨by simpa using hy8⟩
 have HVD := Aside0.mk hv8
 have HWD := Aside0.mk hw8
 have z0 := blk_cell HYD.out 0
 clear hwd hy8 hv8 hw8 HY8 HV8 HW8 HY HW7 y0 x0 yy0 xx0 yf0 hHeld
 go_wp2_with (at_builtin; (refine appFo (W0 := w6) (W := wd) (base := W7.heap.size) (xs := ls.take n) (y := one) (u := .slice A6 one.length c6) (ok := okT) rfl rfl rfl HVD.out HM6.out (fun _ _ => trivial) hs8 hnl2 ?_; intro v13 we hr1 hb1 hg1; obtain ⟨A13, c13, e13⟩ := Kd.R_slice hr1; rw [hln2] at e13; subst e13; have HVE := Aside0.mk hr1; have HWE := Aside0.mk (below_more HWD.out (hb1.mono HYe.out.2)); have HYE := Aside0.mk ((hb1.block Y hYW).trans HYD.out); have hse := Nat.le_trans hs8 hb1.size; have z0 := blk_cell HYE.out 0; have z1 := blk_cell HYE.out 1; have zf0 := blk_frozen HYE.out 0; have zf1 := blk_frozen HYE.out 1; clear hr1 hb1 hg1))
 have hyf := blk_set HYE.out 0 (.slice A13 (n + 1) c13)
 have hvf := Kd.R_mono (Kd.R_far (Kd.R_bound HVE.out) (p := ⟨Y, 0, none⟩) (fun k hk e => Nat.lt_irrefl _ (Nat.lt_of_lt_of_le hYW (by have h1 := hk.2.1; rwa [show k = Y from e] at h1))) (.slice A13 (n + 1) c13)) (ok' := okT) (fun _ _ => trivial)
 have hwf := below_set (g := Y) (j := 0) (v := .slice A13 (n + 1) c13) HWE.out HYe.out.1
 have hsf : W7.heap.size ≤ (we.setCell ⟨Y, 0, none⟩ (.slice A13 (n + 1) c13)).heap.size := by simpa using hse
 obtain ⟨wf, hwf0⟩ : ∃ wf, wf = we.setCell ⟨Y, 0, none⟩ (.slice A13 (n + 1) c13) := ⟨_, rfl⟩
 rw [← hwf0] at hyf hvf hwf hsf ⊢
 have HYF : Aside0 (wf.heap[Y]? = some (.cells #[.slice A13 (n + 1) c13, .slice A2 f.length c2] 26 (0, 0))) := ⟨by simpa using hyf⟩
 have HV13 := Aside0.mk (R_drew hvf)
 have HWF := Aside0.mk (below_drew hwf)
 have hs7f : W7.heap.size ≤ wf.drew.heap.size := hsf
 have y0 : wf.drew.cell? ⟨Y, 0, none⟩ = some (.slice A13 (n + 1) c13) := blk_cell HYF.out 0
 have x0 : wf.drew.cell? ⟨w.heap.size, 0, none⟩ = some (.slice (some ad) ls.length c) := blk_cell (blk_below HK.out HWF.out) 0
 obtain ⟨-, hn2, hn3, ew2, hl2⟩ := H14.out
 have hn4 : (ls.length : Int) ≤ (c : Int) := Int.ofNat_le.2 hc
 have hn5 : (n : Int) + 2 ≤ (c : Int) := Int.le_trans hn2 hn4
 have hl2' : (ls.take n ++ [one]).length + (ls.length - (n + 2)) < 3518437208000 := by rw [hln2]; exact hl2
 clear hwf0 hyf hvf hwf hsf HYE HVE HWE HYD HVD HWD z0 z1 zf0 zf1 hl2 hs8 hse
 refine start_ (n := 10) (S := fun w' => w'.cell? ⟨Y, 0, none⟩ = some (.slice A13 (n + 1) c13) ∧ w'.cell? ⟨w.heap.size, 0, none⟩ = some (.slice (some ad) ls.length c)) (ds := [9]) #[false, false, false, false, false, false, false, false, false, false] (by kernel_rfl) rfl rfl ⟨y0, x0⟩ (fun hHeld => ?_)
 refine with_tabW tb_impl_SpineJoin_9.tab tb_impl_SpineJoin_9.bits (fun HT_ HW_ => ?_)
 refine pure_ (i := 0) (N := some 65) (v := ?_) (a' := ?_) #[true, false, false, false, false, false, false, false, false, false] rfl rfl (any_of HT_.out (by kernel_rfl)) (fun _ _ _ h => h) (Or.inl ⟨by rfl, ?_⟩) ?_ ?_
 rotate_left
 ·intro w'
  go_simp
  with_reducible rfl
 rotate_left
 ·simp only [Act.put, setIfInBounds_toArray, set_cons_zero, set_cons_succ, i64_w]
  rfl
 refine pure_ (i := 2) (N := some 67) (v := ?_) (a' := ?_) #[true, false, true, false, false, false, false, false, false, false] rfl rfl (any_of HT_.out (by kernel_rfl)) (fun _ _ _ h => h) (Or.inl ⟨by rfl, ?_⟩) ?_ ?_
 rotate_left
 ·intro w'
  go_simp
  with_reducible rfl
 rotate_left
 ·simp only [Act.put, setIfInBounds_toArray, set_cons_zero, set_cons_succ, i64_w]
  rfl
 refine pure_ (i := 4) (N := some 69) (v := ?_) (a' := ?_) #[true, false, true, false, true, false, false, false, false, false] rfl rfl (any_of HT_.out (by kernel_rfl)) (fun _ _ _ h => h) (Or.inl ⟨by rfl, ?_⟩) ?_ ?_
 rotate_left
 ·intro w'
  go_simp
  with_reducible rfl
 rotate_left
 ·simp only [Act.put, setIfInBounds_toArray, set_cons_zero, set_cons_succ, i64_w]
  rfl
 refine pure_ (i := 5) (N := some 70) (v := ?_) (a' := ?_) #[true, false, true, false, true, true, false, false, false, false] rfl rfl (any_of HT_.out (by kernel_rfl)) (fun _ _ _ h => h) (Or.inl ⟨by rfl, ?_⟩) ?_ ?_
 rotate_left
 ·intro w'
  go_simp
  with_reducible rfl
 rotate_left
 ·simp only [Act.put, setIfInBounds_toArray, set_cons_zero, set_cons_succ, i64_w]
  rfl
 refine take_ (i := 1) (N := some 66) (v := ?_) (a' := ?_) #[true, true, true, false, true, true, false, false, false, false] rfl rfl (take_ofW HT_.out HW_.out (by kernel_rfl)) (fun _ _ _ h => h) (Or.inl ⟨by rfl, ?_⟩) hHeld ?_ ?_
 rotate_left
 ·rintro w' ⟨s0, s1⟩
  go_simp
  with_reducible rfl
 rotate_left
 ·simp only [Act.put, setIfInBounds_toArray, set_cons_zero, set_cons_succ, i64_w]
  rfl
 refine take_ (i := 3) (N := some 68) (v := ?_) (a' := ?_) #[true, true, true, true, true, true, false, false, false, false] rfl rfl (take_ofW HT_.out HW_.out (by kernel_rfl)) (fun _ _ _ h => h) (Or.inl ⟨by rfl, ?_⟩) hHeld ?_ ?_
 rotate_left
 ·rintro w' ⟨s0, s1⟩
  go_simp
  with_reducible rfl
 rotate_left
 ·simp only [Act.put, setIfInBounds_toArray, set_cons_zero, set_cons_succ, i64_w]
  rfl
 refine pure_ (i := 6) (N := some 71) (v := ?_) (a' := ?_) #[true, true, true, true, true, true, true, false, false, false] rfl rfl (any_of HT_.out (by kernel_rfl)) (fun _ _ _ h => h) (Or.inl ⟨by rfl, ?_⟩) ?_ ?_
 rotate_left
 ·intro w'
  go_simp
  with_reducible rfl
 rotate_left
 ·simp only [Act.put, setIfInBounds_toArray, set_cons_zero, set_cons_succ, i64_w]
  rfl
 refine one_ (i := 7) (N := some 72) #[true, true, true, true, true, true, true, true, false, false] rfl rfl (one_of HT_.out (by kernel_rfl)) (by decide) (fun K hK => ?_)
 refine stepFo (W0 := w6) (W := wf.drew) (base := W7.heap.size) (xs := ls.take n ++ [one]) (ys := ls.drop (n + 2)) (A := if c = n + 2 then some ad else (some ad).map (·.add ((n + 2) * 1))) (m := ls.length - (n + 2)) (c := c - (n + 2)) (ok := okT) rfl rfl (by go_simp; (by_cases hcap : c = n + 2) <;> first|(simp [hcap, H15.out]; done)|(simp [hcap, H15.out]; rfl)) HV13.out (rr_drop (foRead HR.out HB.out (bthen HB.out HWF.out) _) (m := n + 2) H14.out.1 hc) (fun _ _ => trivial) hs7f hl2' ?_
 intro v14 wg hr1 hb1 hg1
 obtain ⟨A14, c14, e14⟩ := Kd.R_slice hr1
 obtain ⟨m14, hm14⟩ : ∃ m, m = ((ls.take n ++ [one]) ++ ls.drop (n + 2)).length := ⟨_, rfl⟩
 rw [← hm14] at e14
 subst e14
 clear hm14
 have HV14 := Aside0.mk hr1
 have HWG := Aside0.mk (below_more HWF.out (hb1.mono HYe.out.2))
 have HYG := Aside0.mk ((hb1.block Y hYW).trans HYF.out)
 have u0 := blk_cell HYG.out 0
 have u2 : wg.cell? ⟨w.heap.size, 0, none⟩ = some (.slice (some ad) ls.length c) := blk_cell (blk_below HK.out (HWG.out)) 0
 have uf0 := blk_frozen HYG.out 0
 clear hr1 hb1 hg1
 refine hK.out _ _ ⟨u0, u2⟩ (fun hHeld => ?_)
 clear hK K
 refine norm_ (a' := ?_) ?_ ?_
 rotate_left
 ·show Act.put _ (some 72) _ = _
  simp only [Act.put, setIfInBounds_toArray, set_cons_zero, set_cons_succ, i64_w]
  rfl
 refine pure_ (i := 8) (N := some 73) (v := ?_) (a' := ?_) #[true, true, true, true, true, true, true, true, true, false] rfl rfl (any_of HT_.out (by kernel_rfl)) (fun _ _ _ h => h) (Or.inl ⟨by rfl, ?_⟩) ?_ ?_
 rotate_left
 ·intro w'
  go_simp
  with_reducible rfl
 rotate_left
 ·simp only [Act.put, setIfInBounds_toArray, set_cons_zero, set_cons_succ, i64_w]
  rfl
 refine last_ (i := 9) (N := none) #[true, true, true, true, true, true, true, true, true, true] rfl rfl (one_of HT_.out (by kernel_rfl)) (by decide) (fun K hK => ?_)
 refine skip_ (w1 := ?_) (by rfl) rfl ?_ ?_
 rotate_left
 ·go_simp
  rfl
 refine hK.out _ _ ?_
 clear hK K
 refine done_ (done_of HT_.out (by kernel_rfl)) ?_
 have hyh := blk_set HYG.out 0 (.slice A14 m14 c14)
 have hvh := Kd.R_mono (Kd.R_far (Kd.R_bound HV14.out) (p := ⟨Y, 0, none⟩) (fun k hk e => Nat.lt_irrefl _ (Nat.lt_of_lt_of_le hYW (by have h1 := hk.2.1; rwa [show k = Y from e] at h1))) (.slice A14 m14 c14)) (ok' := okT) (fun _ _ => trivial)
 have hwh := below_set (g := Y) (j := 0) (v := .slice A14 m14 c14) HWG.out HYe.out.1
 obtain ⟨wh, hwh0⟩ : ∃ wh, wh = wg.setCell ⟨Y, 0, none⟩ (.slice A14 m14 c14) := ⟨_, rfl⟩
 rw [← hwh0] at hyh hvh hwh ⊢
 have HYH : Aside0 (wh.heap[Y]? = some (.cells #[.slice A14 m14 c14, .slice A2 f.length c2] 26 (0, 0))) := ⟨by simpa using hyh⟩
 have HSL := Aside0.mk (Sl.of_Fo hvh hwh)
 have HWH := Aside0.mk hwh
 have HTH := Aside0.mk (blk_below HT.out hwh)
 have HSH : Aside0 (Sl kTm wh (.slice A2 f.length c2) f) := ⟨(HSF.out.below HB.out).below hwh⟩
 have v0 := blk_cell HYH.out 0
 have v1 := blk_cell HYH.out 1
 clear hwh0 hyh hvh hwh HYG HV14 HWG u0 u2 uf0 hHeld y0 x0 HYF HV13 HWF
 obtain ⟨J, hJe⟩ : ∃ J, J = ls.take n ++ [one] ++ ls.drop (n + 2) := ⟨_, rfl⟩
 rw [← hJe] at HSL HSJ HJA
 have hsok := spineOk_iff.1 HSJ.out
 have hJl : J.length ≤ 281474976710656 := by have := hsok.few; omega
 have hJb : SpB J f := hsok.b hb.f
 have hsj := HSJ.out
 clear hJe hsok
 go_wp2_with (first
  | (go_at_call 16; ((with_reducible refine (impl_SpineOk _ _ J f _ HSL.out HSH.out hJl).mono ?_); rintro e w' ⟨rfl, hbb⟩; rw [hsj]; have HSP : Aside0 (SpS w' (.slice A14 m14 c14) (.slice A2 f.length c2) J f) := ⟨⟨HSL.out.below hbb, HSH.out.below hbb⟩⟩; replace HTH := Aside0.mk (blk_below HTH.out hbb); replace HWH := Aside0.mk (bthen HWH.out hbb); replace v0 := pw_cell_below hbb v0; replace v1 := pw_cell_below hbb v1; clear hbb))
  | (go_at_call 36; ((with_reducible refine (impl_spineCopy _ _ J f _ HSP.out hJb).mono ?_); rintro e wz ⟨ga, gb, rfl, hr, hbb⟩; obtain ⟨A9, c9, rfl⟩ := Kd.S_slice hr.1; obtain ⟨A10, c10, rfl⟩ := Kd.R_slice hr.2; have hTw := blk_lt HTH.out; have HG := Aside0.mk hr; replace HTH := Aside0.mk (blk_below HTH.out hbb); replace HWH := Aside0.mk (bthen HWH.out hbb); have z0 := blk_cell HTH.out 0; have z1 := blk_cell HTH.out 1; have zf0 := blk_frozen HTH.out 0; have zf1 := blk_frozen HTH.out 1; clear hbb hr)))
 all_goals
  refine bodyPost_ret (results_ct rfl _ _ T 26 #[.slice A9 J.length c9, .slice A10 f.length c10] (0, 0) _ rfl (blk2 HTH.out _ _) Tryz.underlying26 rfl (by kernel_rfl)) rfl ?_
  have hle : w.heap.size ≤ w'.heap.size := by omega
  refine join_yesI HJ.out ?_ (below_set (below_set (bthen HB.out HWH.out) hT2) hT2)
  rw [Int.toNat_natCast, HJA.out]
  exact SpO.lower (SpO.far (SpO.far HG.out hTw 0 _) hTw 1 _) hle
end Go.Proofs.YtkdendlgaaimbaaGreat.X
