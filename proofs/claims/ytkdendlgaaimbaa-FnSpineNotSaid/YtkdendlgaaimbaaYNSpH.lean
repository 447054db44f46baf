/- Conditions: none. -/
import Derived.Test.YtkdendlgaaimbaaYNShd
import Derived.Test.YtkdendlgaaimbaaYNLb
import Derived.Test.YtkdendlgaaimbaaYNSb
import Derived.Test.YtkdendlgaaimbaaYNPlH
import Derived.RegionTactic
import Derived.BigRegion
namespace Go.Proofs.Ytkdendlgaaimbaa.X
open Go.RowKit Go.Proofs.YtkdendlgaaimbaaW.PrintWords Go.Proofs.YtkdendlgaaimbaaW.PrintLast
open List (setIfInBounds_toArray set_cons_zero set_cons_succ)
set_option linter.unusedVariables false
set_option linter.unusedSimpArgs false
theorem offTy {α : Type} {d : Kd α} {e ty T base : Nat} {w : World} {ok : Nat → Prop} {v : Value} {xs : List α} {cs : Array Value} (h : d.R e w base ok v xs) (ht : w.heap[T]? = some (.cells cs ty (0, 0))) (hne : (e :: d.E).contains ty = false) : d.R e w base (fun q => ok q ∧ q ≠ T) v xs :=
 Kd.R_mono (Kd.R_bound h) (fun q hq => ⟨hq.1, fun he => by
  obtain ⟨_, _, _, t2, hm, cells, hc⟩ := hq
  rw [he, ht] at hc
  have e2 : ty = t2 := by injection hc with hc; injection hc
  rw [← e2] at hm
  have := List.elem_iff.2 hm
  rw [show List.elem ty (e :: d.E) = false from hne] at this
  cases this⟩)
section
variable {V w w1 w' : World} {K X T base : Nat} {a b u v v1 : Value} {ls L : List (List Rw)} {f F : List Tm}
structure CS (V : World) (K X T : Nat) (a b u v : Value) (ls : List (List Rw)) (f : List Tm) (w : World) : Prop where
 sp : SpT w V.heap.size okT u v ls f
 kb : w.heap[K]? = some (.cells #[a, b] 26 (0, 0))
 xb : w.heap[X]? = some (.cells #[u, v] 26 (0, 0))
 tb : w.heap[T]? = some (.cells #[.slice none 0 0, .slice none 0 0] 26 (0, 0))
 be : Below V.heap.size V w
theorem CS.below (h : CS V K X T a b u v ls f w) (hb : Below w.heap.size w w') : CS V K X T a b u v ls f w' := ⟨h.sp.below hb, blk_below h.kb hb, blk_below h.xb hb, blk_below h.tb hb, bthen h.be hb⟩
theorem CS.sl (h : CS V K X T a b u v ls f w) : kSh.R 27 w V.heap.size okT u ls := h.sp.1
theorem CS.x0 (h : CS V K X T a b u v ls f w) : w.cell? ⟨X, 0, none⟩ = some u := blk_cell h.xb 0
theorem CS.x1 (h : CS V K X T a b u v ls f w) : w.cell? ⟨X, 1, none⟩ = some v := blk_cell h.xb 1
theorem CS.k0 (h : CS V K X T a b u v ls f w) : w.cell? ⟨K, 0, none⟩ = some a := blk_cell h.kb 0
theorem CS.app0 (h : CS V K X T a b u v ls f w) (hr : kSh.R 27 w1 V.heap.size okT v1 L) (hg : w.grownBy w1 u.ownBlock) (hb : Below V.heap.size w w1) (hX : V.heap.size ≤ X) (hKX : K ≠ X) (hTX : T ≠ X) :
  w1.heap[X]? = some (.cells #[u, v] 26 (0, 0)) ∧ CS V K X T a b v1 v L f (w1.setCell ⟨X, 0, none⟩ v1) := by
 have hx := (hg.block X (blk_lt h.xb) (fun e => ((offTy h.sp.1 h.xb (by decide)).1 X e.symm).2 rfl)).trans h.xb
 have ht := (hg.block T (blk_lt h.tb) (fun e => ((offTy h.sp.1 h.tb (by decide)).1 T e.symm).2 rfl)).trans h.tb
 have hk := (hg.block K (blk_lt h.kb) (fun e => ((offTy h.sp.1 h.kb (by decide)).1 K e.symm).2 rfl)).trans h.kb
 have hf := Kd.R_over h.sp.2 h.sp.1 (by decide) hg
 exact ⟨hx, ⟨Kd.R_mono (Kd.R_far (offTy hr hx (by decide)) (p := ⟨X, 0, none⟩) (fun k hk => hk.2) _) (fun _ _ => trivial), Kd.R_mono (Kd.R_far (offTy hf hx (by decide)) (p := ⟨X, 0, none⟩) (fun k hk => hk.2) _) (fun _ _ => trivial)⟩,
  blk_far hk (p := ⟨X, 0, none⟩) hKX v1, by simpa using blk_set hx 0 v1, blk_far ht (p := ⟨X, 0, none⟩) hTX v1, below_set (below_more h.be hb) hX⟩
theorem CS.put1 (h : CS V K X T a b u v ls f w) (hr : kTm.R 43 w V.heap.size okT v1 F) (hX : V.heap.size ≤ X) (hKX : K ≠ X) (hTX : T ≠ X) : CS V K X T a b u v1 ls F (w.setCell ⟨X, 1, none⟩ v1) :=
 ⟨⟨Kd.R_mono (Kd.R_far (offTy h.sp.1 h.xb (by decide)) (p := ⟨X, 1, none⟩) (fun k hk => hk.2) _) (fun _ _ => trivial), Kd.R_mono (Kd.R_far (offTy hr h.xb (by decide)) (p := ⟨X, 1, none⟩) (fun k hk => hk.2) _) (fun _ _ => trivial)⟩,
  blk_far h.kb (p := ⟨X, 1, none⟩) hKX v1, by simpa using blk_set h.xb 1 v1, blk_far h.tb (p := ⟨X, 1, none⟩) hTX v1, below_set h.be hX⟩
theorem CS.fin (h : CS V K X T a b u v ls f w) (hT : V.heap.size ≤ T) (x y : Value) : SpT ((w.setCell ⟨T, 0, none⟩ x).setCell ⟨T, 1, none⟩ y) V.heap.size okT u v ls f ∧ Below V.heap.size V ((w.setCell ⟨T, 0, none⟩ x).setCell ⟨T, 1, none⟩ y) := by
 have hT1 : (w.setCell ⟨T, 0, none⟩ x).heap[T]? = some (.cells ((#[.slice none 0 0, .slice none 0 0] : Array Value).setIfInBounds 0 x) 26 (0, 0)) := by simpa using blk_set h.tb 0 x
 have s1 : SpT (w.setCell ⟨T, 0, none⟩ x) V.heap.size okT u v ls f := ⟨Kd.R_mono (Kd.R_far (offTy h.sp.1 h.tb (by decide)) (p := ⟨T, 0, none⟩) (fun k hk => hk.2) _) (fun _ _ => trivial), Kd.R_mono (Kd.R_far (offTy h.sp.2 h.tb (by decide)) (p := ⟨T, 0, none⟩) (fun k hk => hk.2) _) (fun _ _ => trivial)⟩
 exact ⟨⟨Kd.R_mono (Kd.R_far (offTy s1.1 hT1 (by decide)) (p := ⟨T, 1, none⟩) (fun k hk => hk.2) _) (fun _ _ => trivial), Kd.R_mono (Kd.R_far (offTy s1.2 hT1 (by decide)) (p := ⟨T, 1, none⟩) (fun k hk => hk.2) _) (fun _ _ => trivial)⟩, below_set (below_set h.be hT) hT⟩
end
section
variable {ops : Array Oper} {o : Oper} {a : Act} {Q : Exit → Act → World → Prop} {Kc : Act → World → Prop}
theorem stepRowsH {W : World} {base : Nat} {s x : Operand} {xs ys : List Rw} {ok : Nat → Prop} {A : Option Addr} {c : Nat} (hw : Region.wanted o (yielded ops a.tmps) = true)
  (ho : o.op = .call { callee := .builtin .append, args := #[s, x], argTypes := #[27, 27] })
  (hx : a.eval x = .slice A ys.length c) (HO : kRw.R 102 W base ok (a.eval s) xs) (HS : Sl kRw W (.slice A ys.length c) ys) (hfresh : ∀ k, W.heap.size ≤ k → ok k) (hbase : base ≤ W.heap.size) (hl : xs.length + ys.length < 3518437208000)
  (h : ∀ v1 w1, kRw.R 102 w1 base ok v1 (xs ++ ys) → Below base W w1 → W.grownBy w1 (a.eval s).ownBlock → Kc (a.put o.dst v1) w1) :
  if Region.wanted o (yielded ops a.tmps) = true then Oper.wp Try.prog o a W Kc Q else Kc (a.put o.dst undef) W := by
 obtain ⟨A', c', hv, hc, hC⟩ := HS
 cases hv
 exact Kd.R_append_rows_step kRw (w0 := W) base hw s x 27 102 (.agg #[.int .i64 0, .int .i64 0, .int .i64 0, .int .i64 0, .int .i64 0]) 40 ho Try.underlying27 infoRw rfl (by decide) (by omega) _ xs ys A _ c ok (fun _ => False) rfl hx HO hC (fun _ _ hk => kRw_M.2 (kRw_K.1 hk)) (fun _ hk => hk.elim) hfresh (Below.refl _ _) hbase (by omega) (fun v1 w1 h1 h2 h3 _ => h v1 w1 h1 h2 h3)
end
theorem rdLayH {w : World} {A : Option Addr} {m : Nat} {ls : List (List Rw)} (h : Kd.C (Kd.slice 102 kRw) w A m ls) {k : Nat} (hk : k < m) : ∃ ad B c, A = some ad ∧ w.cell? (ad.add k) = some (.slice B (lay ls k).length c) ∧ Sl kRw w (.slice B (lay ls k).length c) (lay ls k) := by
 obtain ⟨ad, c, e, _, hK, hc0⟩ := Kd.C_get h ([] : List Rw) (k : Int) (by omega) (by omega)
 rw [Int.toNat_natCast] at hK hc0
 have hc : ∀ j u, c[j]? = some u → w.cell? (ad.add (k * 1 + j)) = some u := hc0
 obtain ⟨B, c0, rfl, l0, g0⟩ := hK
 exact ⟨ad, B, c0, e, by have hq := hc 0 _ rfl; rwa [Nat.mul_one, Nat.add_zero] at hq, B, c0, rfl, l0, g0⟩
theorem take_lay {ls : List (List Rw)} {k : Nat} (h : k < ls.length) : ls.take (k + 1) = ls.take k ++ [lay ls k] := by
 rw [lay_at h, List.take_succ_eq_append_getElem h]
def tb_spec_l12Copy_5.T : Bool × List (List Nat × List Nat) := (true, [([], []), ([0], [0]), ([], []), ([], []), ([3], [3]), ([], []), ([4, 5], [4, 5]), ([6], [6]), ([2, 7], [2, 7]), ([8], [8]), ([1, 9, 8], [1, 9]), ([0, 1, 2, 3, 4, 5, 6, 7, 8, 9, 10], []), ([11, 10, 10, 0, 1, 2, 3, 4, 5, 6, 7, 8, 9, 10], [10, 11])])
def tb_spec_l12Copy_5.B : List Nat := [0, 1, 0, 0, 8, 0, 56, 120, 252, 508, 1023, 2047, 4095]
theorem tb_spec_l12Copy_5.tab : rtab .any (opsOf Try.f84 5) = tb_spec_l12Copy_5.T := by kernel_rfl
theorem tb_spec_l12Copy_5.bits : waitsOk tb_spec_l12Copy_5.T.2 tb_spec_l12Copy_5.B = true := by kernel_rfl
set_option maxRecDepth 100000 in
set_option maxHeartbeats 4000000 in
theorem spec_CopyH (u v : Value) (ls : List (List Rw)) (f : List Tm) (w : World) (h : SpS w u v ls f) (hb : SpB ls f) : Calls Try.prog 84 #[.agg #[u, v]] w (fun e w' => ∃ a b : Value, e = .returned (.agg #[a, b]) ∧ SpT w' w.heap.size okT a b ls f ∧ Below w.heap.size w w') := by
 have HS := Aside0.mk h
 have HSB := Aside0.mk hb
 obtain ⟨⟨A, c, rfl, hc, hr⟩, A2, c2, rfl, hc2, hr2⟩ := h
 have hl := hb.l
 have hf := hb.f
 have hm := Kd.C_max hr
 clear hr hr2 hb
 have HB := Aside0.mk (Below.refl w.heap.size w)
 go_enter Try.func84, Try.ntmps84
 go_upto_region 1 with fail
 refine name_world fun W0 hW0 => ?_
 have hb0 : Below w.heap.size w W0 := hW0 ▸ below_alloc (below_alloc (Below.refl _ _) _) _
 have K0 : W0.heap[w.heap.size]? = some (.cells #[.slice A ls.length c, .slice A2 f.length c2] 26 (0, 0)) := by rw [hW0]; exact (blk_alloc (blk_new w _) _)
 obtain ⟨T, hT⟩ : ∃ T, T = w.heap.size + 1 := ⟨_, rfl⟩
 have T0 : W0.heap[T]? = some (.cells #[.slice none 0 0, .slice none 0 0] 26 (0, 0)) := by rw [hW0, hT]; have := blk_new (w.alloc (.cells #[.slice A ls.length c, .slice A2 f.length c2] 26 (0, 0))) (.cells #[.slice none 0 0, .slice none 0 0] 26 (0, 0)); simpa using this
 rw [← hT]
 obtain ⟨K, hK⟩ : ∃ K, K = w.heap.size := ⟨_, rfl⟩
 rw [← hK] at K0 ⊢
 have HTw := Aside0.mk (show w.heap.size ≤ T by omega)
 have hne : K ≠ T := by omega
 have HK := Aside0.mk K0
 have HT := Aside0.mk T0
 replace HB := Aside0.mk hb0
 have k1 := blk_cell HK.out 1
 have hbw := HB.out.size
 have HNL := Aside0.mk (R_none (d := kTm) (e := 43) (w := W0.alloc (.cells #[] 43)) (base := W0.heap.size) (ok := okT) (blk_new W0 _) (Nat.le_refl _) trivial)
 have HB1 := Aside0.mk (below_alloc (Below.refl W0.heap.size W0) (.cells #[] 43))
 have HSf := Aside0.mk (show Sl kTm (W0.alloc (.cells #[] 43)) (.slice A2 f.length c2) f from (HS.out.2.below hb0).below HB1.out)
 have k2 : (W0.alloc (.cells #[] 43)).cell? ⟨K, 1, none⟩ = some (.slice A2 f.length c2) := pw_cell_below HB1.out k1
 clear hW0 hT hK K0 T0 hb0 k1
 go_upto_region 2 with (at_builtin; refine appsTm (w0 := W0.alloc (.cells #[] 43)) (base := W0.heap.size) (xs := []) (ys := f) (ok := okT) rfl rfl HSf.out HNL.out (fun _ _ => trivial) (Below.refl _ _) (by simp) (by simp; omega) ?_; intro v1 w1 hr1 hb1 hg1 ha1; rw [List.nil_append] at hr1; obtain ⟨A7, c7, e7⟩ := Kd.R_slice hr1; subst e7; have HF := Aside0.mk hr1; have hb2 := Aside0.mk (below_more HB1.out hb1); clear hr1 hb1 hg1 ha1)
 refine name_world fun W1 hW => ?_
 have BX : W1.heap[w1.heap.size]? = some (.cells #[.slice none 0 0, .slice A7 f.length c7] 26 (0, 0)) := by rw [hW]; exact blk_new w1 _
 have hb1 : Below w1.heap.size w1 W1 := by rw [hW]; repeat (first | exact Below.refl _ _ | apply below_alloc | refine below_set ?_ (by simp))
 clear hW
 generalize hX : w1.heap.size = X at BX ⊢
 have hX : w.heap.size ≤ X := by have := hb2.out.size; omega
 have hKX : K ≠ X := by have := blk_lt HK.out; have := hb2.out.size; omega
 have hTX : T ≠ X := by have := blk_lt HT.out; have := hb2.out.size; omega
 have HQ : Aside0 (CS w K X T (.slice A ls.length c) (.slice A2 f.length c2) (.slice none 0 0) (.slice A7 f.length c7) [] f W1) := ⟨⟨⟨Kd.R_nil _ _ _ _ _, Kd.R_lower (Kd.R_below HF.out hb1) hbw⟩, blk_below (blk_below HK.out hb2.out) hb1, BX, blk_below (blk_below HT.out hb2.out) hb1, bthen (bthen HB.out hb2.out) hb1⟩⟩
 clear HK HT HF hb1 hb2 HB HB1 HNL HSf k2 hbw BX
 go_wp2
 go_loopw [4] (fun i wr => ∃ (k : Nat) (acc : List (List Rw)) (A9 : Option Addr) (c9 : Nat), k ≤ ls.length ∧ i = .int .i64 k ∧ Aside0 (acc = ls.take k) ∧ Aside0 (CS w K X T (.slice A ls.length c) (.slice A2 f.length c2) (.slice A9 acc.length c9) (.slice A7 f.length c7) acc f wr)) (fun i _ => ls.length - (intOf i).toNat)
 case atStart => exact ⟨0, [], none, 0, Nat.zero_le _, rfl, ⟨rfl⟩, HQ⟩
 case round =>
  clear HQ
  obtain ⟨k, acc, A9, c9, hk, rfl, HE, HQ⟩ := hrel
  have k0 := HQ.out.k0
  by_cases hlt : k < ls.length
  ·obtain ⟨A', c', e, _, hC⟩ := (HS.out.1.below HQ.out.be)
   cases e
   obtain ⟨ad, B0, d0, e, l0, S0⟩ := rdLayH hC hlt
   cases e
   have HS0 := Aside0.mk S0
   have hyl := HSB.out.ls _ (lay_mem hlt)
   have hlk : acc.length < 3518437208000 := by rw [HE.out, List.length_take]; omega
   have hyl2 : ([] : List Rw).length + (lay ls k).length < 3518437208000 := by simp; omega
   go_upto_region 5 with fail
   replace HQ := Aside0.mk (HQ.out.below (below_drew (Below.refl _ _)))
   replace HS0 := Aside0.mk (HS0.out.below (below_drew (Below.refl _ _)))
   replace k0 : wr.drew.cell? ⟨K, 0, none⟩ = some (.slice (some ad) ls.length c) := k0
   replace l0 : wr.drew.cell? (ad.add k) = some (.slice B0 (lay ls k).length d0) := l0
   have x0 := HQ.out.x0
   have HT1 : acc ++ [lay ls k] = ls.take (k + 1) := by rw [HE.out]; exact (take_lay hlt).symm
   clear S0 hC
   generalize hy : lay ls k = y at l0 HS0 hyl hyl2 HT1
   clear hy
   have HT2 := Aside0.mk HT1
   clear HT1
   refine start_ (n := 13) (S := fun w' => w'.cell? ⟨X, 0, none⟩ = some (.slice A9 acc.length c9) ∧ w'.cell? ⟨K, 0, none⟩ = some (.slice (some ad) ls.length c) ∧ w'.cell? (ad.add k) = some (.slice B0 y.length d0)) (ds := [10, 12]) #[false, false, false, false, false, false, false, false, false, false, false, false, false] (by kernel_rfl) rfl rfl ⟨x0, k0, l0⟩ (fun hHeld => ?_)
   refine with_tabW tb_spec_l12Copy_5.tab tb_spec_l12Copy_5.bits (fun HT_ HW_ => ?_)
   refine pure_ (i := 0) (N := some 17) (v := ?_) (a' := ?_) #[true, false, false, false, false, false, false, false, false, false, false, false, false] rfl rfl (any_of HT_.out (by kernel_rfl)) (fun _ _ _ h => h) (Or.inl ⟨by rfl, ?_⟩) ?_ ?_
   rotate_left
   ·intro w'
    go_simp
    with_reducible rfl
   rotate_left
   ·simp only [Act.put, setIfInBounds_toArray, set_cons_zero, set_cons_succ, i64_w]
    rfl
   refine pure_ (i := 3) (N := some 20) (v := ?_) (a' := ?_) #[true, false, false, true, false, false, false, false, false, false, false, false, false] rfl rfl (any_of HT_.out (by kernel_rfl)) (fun _ _ _ h => h) (Or.inl ⟨by rfl, ?_⟩) ?_ ?_
   rotate_left
   ·intro w'
    go_simp
    with_reducible rfl
   rotate_left
   ·simp only [Act.put, setIfInBounds_toArray, set_cons_zero, set_cons_succ, i64_w]
    rfl
   refine pure_ (i := 5) (N := some 22) (v := ?_) (a' := ?_) #[true, false, false, true, false, true, false, false, false, false, false, false, false] rfl rfl (any_of HT_.out (by kernel_rfl)) (fun _ _ _ h => h) (Or.inl ⟨by rfl, ?_⟩) ?_ ?_
   rotate_left
   ·intro w'
    go_simp
    with_reducible rfl
   rotate_left
   ·simp only [Act.put, setIfInBounds_toArray, set_cons_zero, set_cons_succ, i64_w]
    rfl
   refine take_ (i := 1) (N := some 18) (v := ?_) (a' := ?_) #[true, true, false, true, false, true, false, false, false, false, false, false, false] rfl rfl (take_ofW HT_.out HW_.out (by kernel_rfl)) (fun _ _ _ h => h) (Or.inl ⟨by rfl, ?_⟩) hHeld ?_ ?_
   rotate_left
   ·rintro w' ⟨s0, s1, s2⟩
    go_simp
    with_reducible rfl
   rotate_left
   ·simp only [Act.put, setIfInBounds_toArray, set_cons_zero, set_cons_succ, i64_w]
    rfl
   refine take_ (i := 4) (N := some 21) (v := ?_) (a' := ?_) #[true, true, false, true, true, true, false, false, false, false, false, false, false] rfl rfl (take_ofW HT_.out HW_.out (by kernel_rfl)) (fun _ _ _ h => h) (Or.inl ⟨by rfl, ?_⟩) hHeld ?_ ?_
   rotate_left
   ·rintro w' ⟨s0, s1, s2⟩
    go_simp
    with_reducible rfl
   rotate_left
   ·simp only [Act.put, setIfInBounds_toArray, set_cons_zero, set_cons_succ, i64_w]
    rfl
   refine pure_ (i := 6) (N := some 23) (v := ?_) (a' := ?_) #[true, true, false, true, true, true, true, false, false, false, false, false, false] rfl rfl (any_of HT_.out (by kernel_rfl)) (fun _ _ _ h => h) (Or.inl ⟨by rfl, ?_⟩) ?_ ?_
   rotate_left
   ·intro w'
    go_simp
    with_reducible rfl
   rotate_left
   ·simp only [Act.put, setIfInBounds_toArray, set_cons_zero, set_cons_succ, i64_w]
    rfl
   refine take_ (i := 7) (N := some 24) (v := ?_) (a' := ?_) #[true, true, false, true, true, true, true, true, false, false, false, false, false] rfl rfl (take_ofW HT_.out HW_.out (by kernel_rfl)) (fun _ _ _ h => h) (Or.inl ⟨by rfl, ?_⟩) hHeld ?_ ?_
   rotate_left
   ·rintro w' ⟨s0, s1, s2⟩
    go_simp
    with_reducible rfl
   rotate_left
   ·simp only [Act.put, setIfInBounds_toArray, set_cons_zero, set_cons_succ, i64_w]
    rfl
   refine one_ (i := 2) (N := some 19) #[true, true, true, true, true, true, true, true, false, false, false, false, false] rfl rfl (one_of HT_.out (by kernel_rfl)) (by decide) (fun K hK => ?_)
   refine Kd.R_lit_step kRw _ 102 ?hg (N := 19) ?hd (xs := ([] : List Rw)) (inner := []) (ok := okT) (okp := fun _ => True) ?hr ?hp (fun _ hk => hk) trivial (Below.refl _ _) (Nat.le_refl _) (by simp) ?_; (case hd => rfl); (case hg => rfl); (case hr => first|(go_simp; done)|(go_simp; rfl)); (case hp => exact (Reps.none _ _))
   intro v1 w2 hr1 hb1 hg1 hn1_
   have HO1 := Aside0.mk hr1
   have hbw1 : Below wr.drew.heap.size wr.drew w2 := hb1
   clear hr1 hb1 hg1 hn1_
   refine hK.out _ _ ⟨pw_cell_below hbw1 x0, pw_cell_below hbw1 k0, pw_cell_below hbw1 l0⟩ (fun hHeld => ?_)
   clear hK K
   refine norm_ (a' := ?_) ?_ ?_
   rotate_left
   ·show Act.put _ (some 19) _ = _
    simp only [Act.put, setIfInBounds_toArray, set_cons_zero, set_cons_succ, i64_w]
    rfl
   refine one_ (i := 8) (N := some 25) #[true, true, true, true, true, true, true, true, true, false, false, false, false] rfl rfl (one_of HT_.out (by kernel_rfl)) (by decide) (fun K hK => ?_)
   refine stepRowsH (W := w2) (base := wr.drew.heap.size) (xs := []) (ys := y) (A := B0) (c := d0) (ok := okT) rfl rfl rfl HO1.out (HS0.out.below hbw1) (fun _ _ => trivial) hbw1.size hyl2 ?_
   intro v2 w3 hr2 hb2 hg2
   rw [List.nil_append] at hr2
   obtain ⟨A12, c12, e12⟩ := Kd.R_slice hr2
   subst e12
   have HO2 := Aside0.mk hr2
   have hbw2 : Below wr.drew.heap.size wr.drew w3 := below_more hbw1 hb2
   have HQ2 := Aside0.mk (HQ.out.below hbw2)
   clear hr2 hb2 hg2
   refine hK.out _ _ ⟨pw_cell_below hbw2 x0, pw_cell_below hbw2 k0, pw_cell_below hbw2 l0⟩ (fun hHeld => ?_)
   clear hK K
   refine norm_ (a' := ?_) ?_ ?_
   rotate_left
   ·show Act.put _ (some 25) _ = _
    simp only [Act.put, setIfInBounds_toArray, set_cons_zero, set_cons_succ, i64_w]
    rfl
   refine one_ (i := 9) (N := some 26) #[true, true, true, true, true, true, true, true, true, true, false, false, false] rfl rfl (one_of HT_.out (by kernel_rfl)) (by decide) (fun K hK => ?_)
   refine value_ (w1 := ?_) (v := ?_) (by rfl) rfl ?_ ?_
   rotate_left 2
   ·go_simp
    constructor
    ·rfl
    ·rfl
   refine hK.out _ _ ⟨pw_cell_below (below_alloc hbw2 _) x0, pw_cell_below (below_alloc hbw2 _) k0, pw_cell_below (below_alloc hbw2 _) l0⟩ (fun hHeld => ?_)
   clear hK K
   refine norm_ (a' := ?_) ?_ ?_
   rotate_left
   ·show Act.put _ (some 26) _ = _
    simp only [Act.put, setIfInBounds_toArray, set_cons_zero, set_cons_succ, i64_w]
    rfl
   refine last_ (i := 10) (N := some 27) #[true, true, true, true, true, true, true, true, true, true, true, false, false] rfl rfl (one_of HT_.out (by kernel_rfl)) (by decide) (fun K hK => ?_)
   refine stepLay1 (W := w3) (base := w.heap.size) (xs := acc) (y := y) (u := .slice A12 y.length c12) (ok := okT) (okp := fun q => wr.drew.heap.size ≤ q) rfl rfl rfl HQ2.out.sl (sh_M (Kd.R_lower (Kd.R_mono (Kd.R_bound HO2.out) (fun q hq => hq.2.1)) HQ.out.be.size)) (fun q hq => ⟨trivial, fun e => Nat.lt_irrefl _ (Nat.lt_of_lt_of_le ((Kd.R_bound HQ.out.sl).1 q e.symm).2.2.1 hq)⟩) (fun _ _ => trivial) HQ2.out.be.size hlk ?_
   intro v14 w4 hr3 hb3 hg3
   obtain ⟨A14, c14, e14⟩ := Kd.R_slice hr3
   obtain ⟨m14, hm14⟩ : ∃ m, m = (acc ++ [y]).length := ⟨_, rfl⟩
   rw [← hm14] at e14
   subst e14
   have HM14 := Aside0.mk hm14
   clear hm14
   have HA0 := Aside0.mk (CS.app0 HQ2.out hr3 hg3 hb3 hX hKX hTX)
   have z0 := blk_cell HA0.out.1 0
   have zf0 := blk_frozen HA0.out.1 0
   clear hr3 hb3 hg3
   refine hK.out _ _ ?_
   clear hK K
   refine norm_ (a' := ?_) ?_ ?_
   rotate_left
   ·show Act.put _ (some 27) _ = _
    simp only [Act.put, setIfInBounds_toArray, set_cons_zero, set_cons_succ, i64_w]
    rfl
   refine pure_ (i := 11) (N := some 28) (v := ?_) (a' := ?_) #[true, true, true, true, true, true, true, true, true, true, true, true, false] rfl rfl (any_of HT_.out (by kernel_rfl)) (fun _ _ _ h => h) (Or.inl ⟨by rfl, ?_⟩) ?_ ?_
   rotate_left
   ·intro w'
    go_simp
    with_reducible rfl
   rotate_left
   ·simp only [Act.put, setIfInBounds_toArray, set_cons_zero, set_cons_succ, i64_w]
    rfl
   refine last_ (i := 12) (N := none) #[true, true, true, true, true, true, true, true, true, true, true, true, true] rfl rfl (one_of HT_.out (by kernel_rfl)) (by decide) (fun K hK => ?_)
   refine skip_ (w1 := ?_) (by rfl) rfl ?_ ?_
   rotate_left
   ·go_simp
    rfl
   refine hK.out _ _ ?_
   clear hK K
   refine done_ (done_of HT_.out (by kernel_rfl)) ?_
   have hq := HA0.out.2
   obtain ⟨wz, hwz⟩ : ∃ wz, wz = w4.setCell ⟨X, 0, none⟩ (.slice A14 m14 c14) := ⟨_, rfl⟩
   rw [← hwz] at hq ⊢
   rw [HM14.out] at hq ⊢
   replace HQ := Aside0.mk hq
   clear hwz hq x0 k0 l0 z0 zf0 hHeld HT_ HW_ HA0 HQ2 HO2 HO1 hbw1 hbw2
   go_wp2
   go_roundw
   case rel => exact ⟨k + 1, _, A14, c14, by omega, by go_num, HT2, HQ⟩
   case measure => simp [intOf]; omega
  ·obtain rfl : k = ls.length := by omega
   have e9 : acc = ls := by rw [HE.out, List.take_length]
   subst e9
   have x0 := HQ.out.x0
   have x1 := HQ.out.x1
   have t0 := blk_cell HQ.out.tb 0
   have t1 := blk_cell HQ.out.tb 1
   have tf0 := blk_frozen HQ.out.tb 0
   have tf1 := blk_frozen HQ.out.tb 1
   go_wp2
   refine ret_cell (p := 2) (g := T) rfl rfl rfl (blk2 HQ.out.tb _ _) Try.underlying26 rfl (by kernel_rfl) ?_
   obtain ⟨q1, q2⟩ := CS.fin HQ.out HTw.out (.slice A9 acc.length c9) (.slice A7 f.length c7)
   exact ⟨_, _, rfl, q1, q2⟩
theorem since_noU {w w' : World} {ls : List (List Rw)} {f l : List Tm} (h : sinceB ls f l = false) (hb : Below w.heap.size w w') : SpU w (sinceL ls f l) (sinceF ls f l) (sinceB ls f l) (.returned (.tuple #[.agg #[.slice none 0 0, .slice none 0 0], .bool false])) w' := by
 unfold sinceL sinceF
 rw [h]
 exact ⟨_, _, rfl, ⟨Kd.R_nil _ _ _ _ _, Kd.R_nil _ _ _ _ _⟩, hb⟩
theorem since_yesU {w w' : World} {ls : List (List Rw)} {f l : List Tm} {a b : Value} (h : sinceB ls f l = true) (ht : SpT w' w.heap.size okT a b ls l) (hb : Below w.heap.size w w') : SpU w (sinceL ls f l) (sinceF ls f l) (sinceB ls f l) (.returned (.tuple #[.agg #[a, b], .bool true])) w' := by
 unfold sinceL sinceF
 rw [h]
 exact ⟨_, _, rfl, ht, hb⟩
def tb_spec_SpineSince_6.T : Bool × List (List Nat × List Nat) := (true, [([], []), ([0], [0]), ([1], [1]), ([2], [2]), ([3], [3]), ([4], [4]), ([5, 4], [4, 5]), ([4], [4]), ([4], [4]), ([7, 8, 4], [4, 7, 8]), ([9, 4], [4, 9]), ([6, 10, 4, 4], [4, 6, 10]), ([11, 4], [4, 11]), ([4, 12], [4, 12])])
def tb_spec_SpineSince_6.B : List Nat := [0, 1, 3, 7, 15, 31, 63, 31, 31, 415, 927, 2047, 4095, 8191]
theorem tb_spec_SpineSince_6.tab : rtab .any (opsOf Try.f23 6) = tb_spec_SpineSince_6.T := by kernel_rfl
theorem tb_spec_SpineSince_6.bits : waitsOk tb_spec_SpineSince_6.T.2 tb_spec_SpineSince_6.B = true := by kernel_rfl
set_option maxRecDepth 100000 in
set_option maxHeartbeats 4000000 in
theorem spec_SinceH (u v v2 : Value) (ls : List (List Rw)) (f l : List Tm) (w : World) (h : SpS w u v ls f) (h2 : Sl kTm w v2 l) (hb : SpB ls f) (hll : l.length ≤ 1048576) : Calls Try.prog 23 #[.agg #[u, v], v2] w (SpU w (sinceL ls f l) (sinceF ls f l) (sinceB ls f l)) := by
 have HS := Aside0.mk h
 have HV := Aside0.mk h2
 have HSB := Aside0.mk hb
 obtain ⟨⟨A, c, rfl, hc, hr⟩, A2, c2, rfl, hc2, hr2⟩ := h
 obtain ⟨A3, c3, rfl, hc3, hr3⟩ := h2
 have hf := hb.f
 have HC3 := Aside0.mk hr3
 clear hr hr2 hr3 hb
 have HB := Aside0.mk (Below.refl w.heap.size w)
 go_enter Try.func23, Try.ntmps23
 go_upto_region 1 with fail
 refine name_world fun W0 hW0 => ?_
 have hb0 : Below w.heap.size w W0 := hW0 ▸ below_alloc (below_alloc (Below.refl _ _) _) _
 have K0 : W0.heap[w.heap.size]? = some (.cells #[.slice A ls.length c, .slice A2 f.length c2] 26 (0, 0)) := by rw [hW0]; exact (blk_alloc (blk_new w _) _)
 obtain ⟨T, hT⟩ : ∃ T, T = w.heap.size + 1 := ⟨_, rfl⟩
 have T0 : W0.heap[T]? = some (.cells #[.slice none 0 0, .slice none 0 0] 26 (0, 0)) := by rw [hW0, hT]; have := blk_new (w.alloc (.cells #[.slice A ls.length c, .slice A2 f.length c2] 26 (0, 0))) (.cells #[.slice none 0 0, .slice none 0 0] 26 (0, 0)); simpa using this
 rw [← hT]
 obtain ⟨K, hK⟩ : ∃ K, K = w.heap.size := ⟨_, rfl⟩
 rw [← hK] at K0 ⊢
 have HTw := Aside0.mk (show w.heap.size ≤ T by omega)
 have hne : K ≠ T := by omega
 have HK := Aside0.mk K0
 have HT := Aside0.mk T0
 replace HB := Aside0.mk hb0
 replace HS := Aside0.mk (HS.out.below hb0)
 replace HV := Aside0.mk (HV.out.below hb0)
 have HC0 := Aside0.mk (show Below w.heap.size w W0 from hb0)
 clear hW0 hT hK K0 T0 hb0
 have k0 := blk_cell HK.out 0
 have k1 := blk_cell HK.out 1
 have HCO := Aside0.mk (spec_SpineOk (.slice A ls.length c) (.slice A2 f.length c2) ls f W0 HS.out.1 HS.out.2)
 cases hso : spineOk ls f
 case false =>
  have HJ := Aside0.mk (show sinceB ls f l = false by unfold sinceB; rw [hso]; rfl)
  go_wp2_with (go_at_call 28; ((with_reducible refine HCO.out.mono ?_); rintro e wa ⟨rfl, hb⟩; rw [hso]; replace HT := Aside0.mk (blk_below HT.out hb); replace HB := Aside0.mk (bthen HB.out hb); have z0 := blk_cell HT.out 0; have z1 := blk_cell HT.out 1; have zf0 := blk_frozen HT.out 0; have zf1 := blk_frozen HT.out 1; clear hb))
  refine bodyPost_ret (results_ct rfl _ _ T 26 #[.slice none 0 0, .slice none 0 0] (0, 0) _ rfl (blk2 HT.out _ _) Try.underlying26 rfl (by kernel_rfl)) rfl ?_
  exact since_noU HJ.out (below_set (below_set HB.out HTw.out) HTw.out)
 case true =>
  have HSO := Aside0.mk (spineOk_iff.1 hso)
  cases hfo : frontOk l
  case false =>
   have HJ := Aside0.mk (show sinceB ls f l = false by unfold sinceB; rw [hso, hfo]; rfl)
   go_wp2_with (first
    | (go_at_call 28; ((with_reducible refine HCO.out.mono ?_); rintro e wa ⟨rfl, hb⟩; rw [hso]; replace HT := Aside0.mk (blk_below HT.out hb); replace HV := Aside0.mk (HV.out.below hb); replace HB := Aside0.mk (bthen HB.out hb); clear hb))
    | (go_at_call 87; ((with_reducible refine (spec_FrontOk _ l _ HV.out).mono ?_); rintro e wb ⟨rfl, hb⟩; rw [hfo]; replace HT := Aside0.mk (blk_below HT.out hb); replace HB := Aside0.mk (bthen HB.out hb); have z0 := blk_cell HT.out 0; have z1 := blk_cell HT.out 1; have zf0 := blk_frozen HT.out 0; have zf1 := blk_frozen HT.out 1; clear hb)))
   refine bodyPost_ret (results_ct rfl _ _ T 26 #[.slice none 0 0, .slice none 0 0] (0, 0) _ rfl (blk2 HT.out _ _) Try.underlying26 rfl (by kernel_rfl)) rfl ?_
   exact since_noU HJ.out (below_set (below_set HB.out HTw.out) HTw.out)
  case true =>
   have HFO := Aside0.mk hfo
   go_upto_if 20 with (first
    | (go_at_call 28; ((with_reducible refine HCO.out.mono ?_); rintro e wa ⟨rfl, hb⟩; rw [hso]; replace HT := Aside0.mk (blk_below HT.out hb); replace HK := Aside0.mk (blk_below HK.out hb); replace HS := Aside0.mk (HS.out.below hb); replace HV := Aside0.mk (HV.out.below hb); replace HB := Aside0.mk (bthen HB.out hb); clear hb))
    | (go_at_call 87; ((with_reducible refine (spec_FrontOk _ l _ HV.out).mono ?_); rintro e wb ⟨rfl, hb⟩; rw [hfo]; replace HT := Aside0.mk (blk_below HT.out hb); replace HK := Aside0.mk (blk_below HK.out hb); replace HS := Aside0.mk (HS.out.below hb); replace HV := Aside0.mk (HV.out.below hb); replace HB := Aside0.mk (bthen HB.out hb); clear hb)))
   clear k0 k1
   by_cases hl0 : l.length = 0
   case pos =>
    have hl0z : ((l.length : Int) == 0) = true := by rw [hl0]; rfl
    have HJ := Aside0.mk (show sinceB ls f l = false by rw [List.eq_nil_of_length_eq_zero hl0]; unfold sinceB; simp)
    have z0 := blk_cell HT.out 0
    have z1 := blk_cell HT.out 1
    have zf0 := blk_frozen HT.out 0
    have zf1 := blk_frozen HT.out 1
    clear hl0
    go_wp2
    refine bodyPost_ret (results_ct rfl _ _ T 26 #[.slice none 0 0, .slice none 0 0] (0, 0) _ rfl (blk2 HT.out _ _) Try.underlying26 rfl (by kernel_rfl)) rfl ?_
    exact since_noU HJ.out (below_set (below_set HB.out HTw.out) HTw.out)
   case neg =>
    have hl0z : ((l.length : Int) == 0) = false := by rw [beq_eq_false_iff_ne]; omega
    have HL0 := Aside0.mk hl0
    clear hl0
    have HBR := Aside0.mk (Below.refl wb.heap.size wb)
    go_wp2
    go_loopw [6] (fun i wr => ∃ k : Nat, k ≤ l.length ∧ i = .int .i64 k ∧ Aside0 (∀ t ∈ l.take k, askOk f t = true) ∧ Aside0 (Below wb.heap.size wb wr)) (fun i _ => l.length - (intOf i).toNat)
    case atStart => exact ⟨0, Nat.zero_le _, rfl, ⟨by simp⟩, HBR⟩
    case round =>
     clear HBR
     obtain ⟨k, hk, rfl, HA, HBW⟩ := hrel
     by_cases hlt : k < l.length
     ·obtain ⟨ad, x, e, HX, h0, h1⟩ := rdTm HC3.out (bthen HB.out HBW.out) hlt
      cases e
      have kk : wr.cell? ⟨K, 1, none⟩ = some (.slice A2 f.length c2) := blk_cell (blk_below HK.out HBW.out) 1
      have htx : tOk x = true := frontOk_all HFO.out x (List.mem_of_getElem? HX.out)
      have hcv := covers_eq HSO.out.front htx
      have d1 : wr.drew.cell? ⟨K, 1, none⟩ = some (.slice A2 f.length c2) := kk
      have d2 : wr.drew.cell? (ad.add (k * 2)) = some (.int .i64 x.f0) := h0
      have d3 : wr.drew.cell? ⟨(ad.add (k * 2)).block, (ad.add (k * 2)).off + 1, none⟩ = some (.int .i64 x.f1) := h1
      have hthree : (f.length = 0 ∧ askOk f x = true) ∨ (0 < f.length ∧ ∃ b, covers f x = b ∧ askOk f x = b) := by
       unfold askOk
       rw [hcv]
       cases f with
       | nil => exact .inl ⟨rfl, rfl⟩
       | cons a f => exact .inr ⟨by simp, _, rfl, rfl⟩
      clear htx kk h0 h1 hcv
      rcases hthree with ⟨hlen, hask⟩ | ⟨hlen, b, hcov, hask⟩
      ·have hl1 : decide (0 < f.length) = false := decide_eq_false (by omega)
       have HASK := Aside0.mk hask
       clear hask hlen
       go_upto_region 6 with fail
       refine start_ (n := 14) (S := fun w' => w'.cell? ⟨K, 1, none⟩ = some (.slice A2 f.length c2)) (ds := []) #[false, false, false, false, false, false, false, false, false, false, false, false, false, false] (by kernel_rfl) rfl rfl (d1) (fun hHeld => ?_)
       refine with_tabW tb_spec_SpineSince_6.tab tb_spec_SpineSince_6.bits (fun HT_ HW_ => ?_)
       refine pure_ (i := 0) (N := some 28) (v := ?_) (a' := ?_) #[true, false, false, false, false, false, false, false, false, false, false, false, false, false] rfl rfl (any_of HT_.out (by kernel_rfl)) (fun _ _ _ h => h) (Or.inl ⟨by rfl, ?_⟩) ?_ ?_
       rotate_left
       ·intro w'
        go_simp
        with_reducible rfl
       rotate_left
       ·simp only [Act.put, setIfInBounds_toArray, set_cons_zero, set_cons_succ, i64_w]
        rfl
       refine take_ (i := 1) (N := some 29) (v := ?_) (a' := ?_) #[true, true, false, false, false, false, false, false, false, false, false, false, false, false] rfl rfl (take_ofW HT_.out HW_.out (by kernel_rfl)) (fun _ _ _ h => h) (Or.inl ⟨by rfl, ?_⟩) hHeld ?_ ?_
       rotate_left
       ·intro w' s0
        go_simp
        with_reducible rfl
       rotate_left
       ·simp only [Act.put, setIfInBounds_toArray, set_cons_zero, set_cons_succ, i64_w]
        rfl
       refine pure_ (i := 2) (N := some 30) (v := ?_) (a' := ?_) #[true, true, true, false, false, false, false, false, false, false, false, false, false, false] rfl rfl (any_of HT_.out (by kernel_rfl)) (fun _ _ _ h => h) (Or.inl ⟨by rfl, ?_⟩) ?_ ?_
       rotate_left
       ·intro w'
        go_simp
        with_reducible rfl
       rotate_left
       ·simp only [Act.put, setIfInBounds_toArray, set_cons_zero, set_cons_succ, i64_w]
        rfl
       refine pure_ (i := 3) (N := some 31) (v := ?_) (a' := ?_) #[true, true, true, true, false, false, false, false, false, false, false, false, false, false] rfl rfl (any_of HT_.out (by kernel_rfl)) (fun _ _ _ h => h) (Or.inl ⟨by rfl, ?_⟩) ?_ ?_
       rotate_left
       ·intro w'
        go_simp
        with_reducible rfl
       rotate_left
       ·simp only [Act.put, setIfInBounds_toArray, set_cons_zero, set_cons_succ, i64_w]
        rfl
       refine pure_ (i := 4) (N := some 32) (v := ?_) (a' := ?_) #[true, true, true, true, true, false, false, false, false, false, false, false, false, false] rfl rfl (any_of HT_.out (by kernel_rfl)) (fun _ _ _ h => h) (Or.inl ⟨by rfl, ?_⟩) ?_ ?_
       rotate_left
       ·intro w'
        go_simp
        with_reducible rfl
       rotate_left
       ·simp only [Act.put, setIfInBounds_toArray, set_cons_zero, set_cons_succ, i64_w]
        rfl
       refine pure_ (i := 5) (N := some 33) (v := undef) (a' := ?_) #[true, true, true, true, true, true, false, false, false, false, false, false, false, false] rfl rfl (any_of HT_.out (by kernel_rfl)) (fun _ _ _ h => h) (Or.inr ⟨by rfl, rfl⟩) ?_ ?_
       rotate_left
       ·simp only [Act.put, setIfInBounds_toArray, set_cons_zero, set_cons_succ, i64_w]
        rfl
       refine pure_ (i := 6) (N := some 34) (v := undef) (a' := ?_) #[true, true, true, true, true, true, true, false, false, false, false, false, false, false] rfl rfl (any_of HT_.out (by kernel_rfl)) (fun _ _ _ h => h) (Or.inr ⟨by rfl, rfl⟩) ?_ ?_
       rotate_left
       ·simp only [Act.put, setIfInBounds_toArray, set_cons_zero, set_cons_succ, i64_w]
        rfl
       refine pure_ (i := 7) (N := some 35) (v := undef) (a' := ?_) #[true, true, true, true, true, true, true, true, false, false, false, false, false, false] rfl rfl (any_of HT_.out (by kernel_rfl)) (fun _ _ _ h => h) (Or.inr ⟨by rfl, rfl⟩) ?_ ?_
       rotate_left
       ·simp only [Act.put, setIfInBounds_toArray, set_cons_zero, set_cons_succ, i64_w]
        rfl
       refine pure_ (i := 8) (N := some 36) (v := undef) (a' := ?_) #[true, true, true, true, true, true, true, true, true, false, false, false, false, false] rfl rfl (any_of HT_.out (by kernel_rfl)) (fun _ _ _ h => h) (Or.inr ⟨by rfl, rfl⟩) ?_ ?_
       rotate_left
       ·simp only [Act.put, setIfInBounds_toArray, set_cons_zero, set_cons_succ, i64_w]
        rfl
       refine pure_ (i := 9) (N := some 37) (v := undef) (a' := ?_) #[true, true, true, true, true, true, true, true, true, true, false, false, false, false] rfl rfl (any_of HT_.out (by kernel_rfl)) (fun _ _ _ h => h) (Or.inr ⟨by rfl, rfl⟩) ?_ ?_
       rotate_left
       ·simp only [Act.put, setIfInBounds_toArray, set_cons_zero, set_cons_succ, i64_w]
        rfl
       refine pure_ (i := 10) (N := some 38) (v := undef) (a' := ?_) #[true, true, true, true, true, true, true, true, true, true, true, false, false, false] rfl rfl (any_of HT_.out (by kernel_rfl)) (fun _ _ _ h => h) (Or.inr ⟨by rfl, rfl⟩) ?_ ?_
       rotate_left
       ·simp only [Act.put, setIfInBounds_toArray, set_cons_zero, set_cons_succ, i64_w]
        rfl
       refine pure_ (i := 11) (N := some 39) (v := undef) (a' := ?_) #[true, true, true, true, true, true, true, true, true, true, true, true, false, false] rfl rfl (any_of HT_.out (by kernel_rfl)) (fun _ _ _ h => h) (Or.inr ⟨by rfl, rfl⟩) ?_ ?_
       rotate_left
       ·simp only [Act.put, setIfInBounds_toArray, set_cons_zero, set_cons_succ, i64_w]
        rfl
       refine pure_ (i := 12) (N := some 40) (v := undef) (a' := ?_) #[true, true, true, true, true, true, true, true, true, true, true, true, true, false] rfl rfl (any_of HT_.out (by kernel_rfl)) (fun _ _ _ h => h) (Or.inr ⟨by rfl, rfl⟩) ?_ ?_
       rotate_left
       ·simp only [Act.put, setIfInBounds_toArray, set_cons_zero, set_cons_succ, i64_w]
        rfl
       refine pure_ (i := 13) (N := some 41) (v := ?_) (a' := ?_) #[true, true, true, true, true, true, true, true, true, true, true, true, true, true] rfl rfl (any_of HT_.out (by kernel_rfl)) (fun _ _ _ h => h) (Or.inl ⟨by rfl, ?_⟩) ?_ ?_
       rotate_left
       ·intro w'
        go_simp
        with_reducible rfl
       rotate_left
       ·simp only [Act.put, setIfInBounds_toArray, set_cons_zero, set_cons_succ, i64_w]
        rfl
       refine done_ (done_of HT_.out (by kernel_rfl)) ?_
       have HB2 := Aside0.mk (below_drew HBW.out)
       clear hHeld HT_ HW_ d1 d2 d3
       go_wp2
       go_roundw
       case rel => exact ⟨k + 1, by omega, by go_num, ⟨by rw [take_snoc HX.out]; intro r hr; rcases List.mem_append.1 hr with hr | hr; exact HA.out r hr; rw [List.mem_singleton.1 hr]; exact HASK.out⟩, HB2⟩
       case measure => simp [intOf]; omega
      ·have hl1 : decide (0 < f.length) = true := decide_eq_true hlen
       have HASK := Aside0.mk hask
       have CV := Aside0.mk (show Calls Try.prog 83 #[.slice A2 f.length c2, .agg #[.int .i64 x.f0, .int .i64 x.f1]] wr.drew (RetV wr.drew (.bool b)) from by
        have := spec_FrontCovers (.slice A2 f.length c2) f x.f0 x.f1 wr.drew ((HS.out.2.below HBW.out).below (below_drew (Below.refl _ _)))
        rwa [show covers f ⟨x.f0, x.f1⟩ = b from hcov] at this)
       clear hask hlen hcov
       go_upto_region 6 with fail
       refine start_ (n := 14) (S := fun w' => w'.cell? ⟨K, 1, none⟩ = some (.slice A2 f.length c2) ∧ w'.cell? (ad.add (k * 2)) = some (.int .i64 x.f0) ∧ w'.cell? ⟨(ad.add (k * 2)).block, (ad.add (k * 2)).off + 1, none⟩ = some (.int .i64 x.f1)) (ds := []) #[false, false, false, false, false, false, false, false, false, false, false, false, false, false] (by kernel_rfl) rfl rfl ⟨d1, d2, d3⟩ (fun hHeld => ?_)
       refine with_tabW tb_spec_SpineSince_6.tab tb_spec_SpineSince_6.bits (fun HT_ HW_ => ?_)
       refine pure_ (i := 0) (N := some 28) (v := ?_) (a' := ?_) #[true, false, false, false, false, false, false, false, false, false, false, false, false, false] rfl rfl (any_of HT_.out (by kernel_rfl)) (fun _ _ _ h => h) (Or.inl ⟨by rfl, ?_⟩) ?_ ?_
       rotate_left
       ·intro w'
        go_simp
        with_reducible rfl
       rotate_left
       ·simp only [Act.put, setIfInBounds_toArray, set_cons_zero, set_cons_succ, i64_w]
        rfl
       refine take_ (i := 1) (N := some 29) (v := ?_) (a' := ?_) #[true, true, false, false, false, false, false, false, false, false, false, false, false, false] rfl rfl (take_ofW HT_.out HW_.out (by kernel_rfl)) (fun _ _ _ h => h) (Or.inl ⟨by rfl, ?_⟩) hHeld ?_ ?_
       rotate_left
       ·rintro w' ⟨s0, s1, s2⟩
        go_simp
        with_reducible rfl
       rotate_left
       ·simp only [Act.put, setIfInBounds_toArray, set_cons_zero, set_cons_succ, i64_w]
        rfl
       refine pure_ (i := 2) (N := some 30) (v := ?_) (a' := ?_) #[true, true, true, false, false, false, false, false, false, false, false, false, false, false] rfl rfl (any_of HT_.out (by kernel_rfl)) (fun _ _ _ h => h) (Or.inl ⟨by rfl, ?_⟩) ?_ ?_
       rotate_left
       ·intro w'
        go_simp
        with_reducible rfl
       rotate_left
       ·simp only [Act.put, setIfInBounds_toArray, set_cons_zero, set_cons_succ, i64_w]
        rfl
       refine pure_ (i := 3) (N := some 31) (v := ?_) (a' := ?_) #[true, true, true, true, false, false, false, false, false, false, false, false, false, false] rfl rfl (any_of HT_.out (by kernel_rfl)) (fun _ _ _ h => h) (Or.inl ⟨by rfl, ?_⟩) ?_ ?_
       rotate_left
       ·intro w'
        go_simp
        with_reducible rfl
       rotate_left
       ·simp only [Act.put, setIfInBounds_toArray, set_cons_zero, set_cons_succ, i64_w]
        rfl
       refine pure_ (i := 4) (N := some 32) (v := ?_) (a' := ?_) #[true, true, true, true, true, false, false, false, false, false, false, false, false, false] rfl rfl (any_of HT_.out (by kernel_rfl)) (fun _ _ _ h => h) (Or.inl ⟨by rfl, ?_⟩) ?_ ?_
       rotate_left
       ·intro w'
        go_simp
        with_reducible rfl
       rotate_left
       ·simp only [Act.put, setIfInBounds_toArray, set_cons_zero, set_cons_succ, i64_w]
        rfl
       refine pure_ (i := 5) (N := some 33) (v := ?_) (a' := ?_) #[true, true, true, true, true, true, false, false, false, false, false, false, false, false] rfl rfl (any_of HT_.out (by kernel_rfl)) (fun _ _ _ h => h) (Or.inl ⟨by rfl, ?_⟩) ?_ ?_
       rotate_left
       ·intro w'
        go_simp
        with_reducible rfl
       rotate_left
       ·simp only [Act.put, setIfInBounds_toArray, set_cons_zero, set_cons_succ, i64_w]
        rfl
       refine pure_ (i := 7) (N := some 35) (v := ?_) (a' := ?_) #[true, true, true, true, true, true, false, true, false, false, false, false, false, false] rfl rfl (any_of HT_.out (by kernel_rfl)) (fun _ _ _ h => h) (Or.inl ⟨by rfl, ?_⟩) ?_ ?_
       rotate_left
       ·intro w'
        go_simp
        with_reducible rfl
       rotate_left
       ·simp only [Act.put, setIfInBounds_toArray, set_cons_zero, set_cons_succ, i64_w]
        rfl
       refine pure_ (i := 8) (N := some 36) (v := ?_) (a' := ?_) #[true, true, true, true, true, true, false, true, true, false, false, false, false, false] rfl rfl (any_of HT_.out (by kernel_rfl)) (fun _ _ _ h => h) (Or.inl ⟨by rfl, ?_⟩) ?_ ?_
       rotate_left
       ·intro w'
        go_simp
        with_reducible rfl
       rotate_left
       ·simp only [Act.put, setIfInBounds_toArray, set_cons_zero, set_cons_succ, i64_w]
        rfl
       refine pure_ (i := 9) (N := some 37) (v := ?_) (a' := ?_) #[true, true, true, true, true, true, false, true, true, true, false, false, false, false] rfl rfl (any_of HT_.out (by kernel_rfl)) (fun _ _ _ h => h) (Or.inl ⟨by rfl, ?_⟩) ?_ ?_
       rotate_left
       ·intro w'
        go_simp
        with_reducible rfl
       rotate_left
       ·simp only [Act.put, setIfInBounds_toArray, set_cons_zero, set_cons_succ, i64_w]
        rfl
       refine take_ (i := 6) (N := some 34) (v := ?_) (a' := ?_) #[true, true, true, true, true, true, true, true, true, true, false, false, false, false] rfl rfl (take_ofW HT_.out HW_.out (by kernel_rfl)) (fun _ _ _ h => h) (Or.inl ⟨by rfl, ?_⟩) hHeld ?_ ?_
       rotate_left
       ·rintro w' ⟨s0, s1, s2⟩
        go_simp
        with_reducible rfl
       rotate_left
       ·simp only [Act.put, setIfInBounds_toArray, set_cons_zero, set_cons_succ, i64_w]
        rfl
       refine take_ (i := 10) (N := some 38) (v := ?_) (a' := ?_) #[true, true, true, true, true, true, true, true, true, true, true, false, false, false] rfl rfl (take_ofW HT_.out HW_.out (by kernel_rfl)) (fun _ _ _ h => h) (Or.inl ⟨by rfl, ?_⟩) hHeld ?_ ?_
       rotate_left
       ·rintro w' ⟨s0, s1, s2⟩
        go_simp
        with_reducible rfl
       rotate_left
       ·simp only [Act.put, setIfInBounds_toArray, set_cons_zero, set_cons_succ, i64_w]
        rfl
       refine one_ (i := 11) (N := some 39) #[true, true, true, true, true, true, true, true, true, true, true, true, false, false] rfl rfl (one_of HT_.out (by kernel_rfl)) (by decide) (fun K hK => ?_)
       refine goes_ Try.func83 (by kernel_rfl) rfl #[.slice A2 f.length c2, .agg #[.int .i64 x.f0, .int .i64 x.f1]] (by rfl) rfl rfl (by simp only [List.map_toArray, List.map_cons, List.map_nil]; rfl) ?_
       with_reducible refine (CV.out).mono ?_
       rintro e w6 ⟨rfl, hb6⟩
       refine ⟨_, rfl, ?_⟩
       have HB2 := Aside0.mk (bthen (below_drew HBW.out) hb6)
       refine hK.out _ _ ⟨pw_cell_below hb6 d1, pw_cell_below hb6 d2, pw_cell_below hb6 d3⟩ (fun hHeld => ?_)
       clear hK K
       refine norm_ (a' := ?_) ?_ ?_
       rotate_left
       ·show Act.put _ (some 39) _ = _
        simp only [Act.put, setIfInBounds_toArray, set_cons_zero, set_cons_succ, i64_w]
        rfl
       refine pure_ (i := 12) (N := some 40) (v := ?_) (a' := ?_) #[true, true, true, true, true, true, true, true, true, true, true, true, true, false] rfl rfl (any_of HT_.out (by kernel_rfl)) (fun _ _ _ h => h) (Or.inl ⟨by rfl, ?_⟩) ?_ ?_
       rotate_left
       ·intro w'
        go_simp
        with_reducible rfl
       rotate_left
       ·simp only [Act.put, setIfInBounds_toArray, set_cons_zero, set_cons_succ, i64_w]
        rfl
       refine pure_ (i := 13) (N := some 41) (v := ?_) (a' := ?_) #[true, true, true, true, true, true, true, true, true, true, true, true, true, true] rfl rfl (any_of HT_.out (by kernel_rfl)) (fun _ _ _ h => h) (Or.inl ⟨by rfl, ?_⟩) ?_ ?_
       rotate_left
       ·intro w'
        go_simp
        with_reducible rfl
       rotate_left
       ·simp only [Act.put, setIfInBounds_toArray, set_cons_zero, set_cons_succ, i64_w]
        rfl
       refine done_ (done_of HT_.out (by kernel_rfl)) ?_
       clear hHeld HT_ HW_ d1 d2 d3 CV hb6
       cases b
       ·have HJ := Aside0.mk (show sinceB ls f l = false by
         have hx := List.mem_of_getElem? HX.out
         cases h : sinceB ls f l
         ·rfl
         ·unfold sinceB at h
          simp only [Bool.and_eq_true, List.all_eq_true] at h
          have := h.2 x hx
          rw [HASK.out] at this
          cases this)
        have HT2 := Aside0.mk (blk_below HT.out HB2.out)
        have z0 := blk_cell HT2.out 0
        have z1 := blk_cell HT2.out 1
        have zf0 := blk_frozen HT2.out 0
        have zf1 := blk_frozen HT2.out 1
        go_wp2
        refine bodyPost_ret (results_ct rfl _ _ T 26 #[.slice none 0 0, .slice none 0 0] (0, 0) _ rfl (blk2 HT2.out _ _) Try.underlying26 rfl (by kernel_rfl)) rfl ?_
        exact since_noU HJ.out (below_set (below_set (bthen HB.out HB2.out) HTw.out) HTw.out)
       ·go_wp2
        go_roundw
        case rel => exact ⟨k + 1, by omega, by go_num, ⟨by rw [take_snoc HX.out]; intro r hr; rcases List.mem_append.1 hr with hr | hr; exact HA.out r hr; rw [List.mem_singleton.1 hr]; exact HASK.out⟩, HB2⟩
        case measure => simp [intOf]; omega
     ·have HJ := Aside0.mk (show sinceB ls f l = true by
       have ha := HA.out
       rw [List.take_of_length_le (by omega)] at ha
       unfold sinceB
       simp only [Bool.and_eq_true, List.all_eq_true]
       refine ⟨⟨⟨spineOk_iff.2 HSO.out, HFO.out⟩, ?_⟩, ha⟩
       cases l with
       | nil => exact absurd rfl HL0.out
       | cons a l => rfl)
      clear HA
      replace HT := Aside0.mk (blk_below HT.out HBW.out)
      replace HK := Aside0.mk (blk_below HK.out HBW.out)
      replace HS := Aside0.mk (HS.out.below HBW.out)
      replace HV := Aside0.mk (HV.out.below HBW.out)
      replace HB := Aside0.mk (bthen HB.out HBW.out)
      have k0 := blk_cell HK.out 0
      have k1 := blk_cell HK.out 1
      clear HBW
      go_upto_region 9 with (go_at_call 84; ((with_reducible refine (spec_CopyH (.slice A ls.length c) (.slice A2 f.length c2) ls f _ HS.out HSB.out).mono ?_); rintro e w4 ⟨xa, xb, rfl, hr, hbb⟩; obtain ⟨A7, c7, e7⟩ := Kd.R_slice hr.1; subst e7; obtain ⟨A8, c8, e8⟩ := Kd.R_slice hr.2; subst e8; have HX4 := Aside0.mk (SpT.lower hr HB.out.size); replace HT := Aside0.mk (blk_below HT.out hbb); replace HK := Aside0.mk (blk_below HK.out hbb); replace HV := Aside0.mk (HV.out.below hbb); replace HB := Aside0.mk (bthen HB.out hbb); clear hr hbb))
      refine name_world fun W5 hW => ?_
      have BX : W5.heap[w4.heap.size]? = some (.cells #[.slice A7 ls.length c7, .slice A8 f.length c8] 26 (0, 0)) := by rw [hW]; exact blk_new w4 _
      have hb1 : Below w4.heap.size w4 W5 := by rw [hW]; repeat (first | exact Below.refl _ _ | apply below_alloc | refine below_set ?_ (by simp))
      clear hW
      generalize hX : w4.heap.size = X at BX ⊢
      have hXw : w.heap.size ≤ X := by have := HB.out.size; omega
      have hKX : K ≠ X := by have := blk_lt HK.out; omega
      have hTX : T ≠ X := by have := blk_lt HT.out; omega
      have HQ : Aside0 (CS w K X T (.slice A ls.length c) (.slice A2 f.length c2) (.slice A7 ls.length c7) (.slice A8 f.length c8) ls f W5) := ⟨⟨HX4.out.below hb1, blk_below HK.out hb1, BX, blk_below HT.out hb1, bthen HB.out hb1⟩⟩
      replace HV := Aside0.mk (HV.out.below hb1)
      clear HX4 BX HK HT HB hb1 k0 k1 hX
      have HNL := Aside0.mk (R_none (d := kTm) (e := 43) (w := W5.alloc (.cells #[] 43)) (base := W5.heap.size) (ok := okT) (blk_new W5 _) (Nat.le_refl _) trivial)
      have HB1 := Aside0.mk (below_alloc (Below.refl W5.heap.size W5) (.cells #[] 43))
      have HSf := Aside0.mk (show Sl kTm (W5.alloc (.cells #[] 43)) (.slice A3 l.length c3) l from HV.out.below HB1.out)
      go_upto_region 10 with (at_builtin; refine appsTm (w0 := W5.alloc (.cells #[] 43)) (base := W5.heap.size) (xs := []) (ys := l) (ok := okT) rfl rfl HSf.out HNL.out (fun _ _ => trivial) (Below.refl _ _) (by simp) (by simp; omega) ?_; intro v1 w6 hr1 hb1 hg1 ha1; rw [List.nil_append] at hr1; obtain ⟨A9, c9, e9⟩ := Kd.R_slice hr1; subst e9; have HQ6 := Aside0.mk (HQ.out.below (below_more HB1.out hb1)); have HF6 := Aside0.mk (Kd.R_lower hr1 HQ.out.be.size); have x1 := HQ6.out.x1; have xf1 := blk_frozen HQ6.out.xb 1; clear hr1 hb1 hg1 ha1)
      have hq := CS.put1 HQ6.out HF6.out hXw hKX hTX
      obtain ⟨wz, hwz⟩ : ∃ wz, wz = w6.setCell ⟨X, 1, none⟩ (.slice A9 l.length c9) := ⟨_, rfl⟩
      rw [← hwz] at hq ⊢
      replace HQ := Aside0.mk hq
      clear hq hwz x1 xf1 HQ6 HF6 HNL HB1 HSf
      have x0 := HQ.out.x0
      have x1 := HQ.out.x1
      have t0 := blk_cell HQ.out.tb 0
      have t1 := blk_cell HQ.out.tb 1
      have tf0 := blk_frozen HQ.out.tb 0
      have tf1 := blk_frozen HQ.out.tb 1
      go_wp2
      refine bodyPost_ret (results_ct rfl _ _ T 26 #[.slice A7 ls.length c7, .slice A9 l.length c9] (0, 0) _ rfl (blk2 HQ.out.tb _ _) Try.underlying26 rfl (by kernel_rfl)) rfl ?_
      obtain ⟨q1, q2⟩ := CS.fin HQ.out HTw.out (.slice A7 ls.length c7) (.slice A9 l.length c9)
      exact since_yesU HJ.out q1 q2
theorem moveGo_drop {f : List Tm} {t o x : Tm} {k : Nat} (hx : f[k]? = some x) : moveGo t o (f.drop k) = moveGo t (tMeet o (tJoin x t)) (f.drop (k + 1)) := by
 have hk := (List.getElem?_eq_some_iff.1 hx).1
 rw [List.drop_eq_getElem_cons hk, (List.getElem?_eq_some_iff.1 hx).2, moveGo]
theorem moved_one {f : List Tm} {t x : Tm} (hf : frontOk f = true) (ht : tOk t = true) (hx : f[0]? = some x) : moveGo t (tJoin x t) (f.drop 1) = moved f t := by
 cases f with
 | nil => cases hx
 | cons s f =>
  have e := Option.some.inj hx
  subst e
  have hj := tJoin_okk (frontOk_all hf s List.mem_cons_self) ht
  have hm : tMeet (tJoin s t) (tJoin s t) = tJoin s t := by
   rw [tMeet_ok hj hj]
   exact Tm.ext' (by show tmin _ _ = _; unfold tmin; split <;> rfl) (by show tmin _ _ = _; unfold tmin; split <;> rfl)
  show moveGo t (tJoin s t) f = moveGo t (tJoin s t) (s :: f)
  rw [moveGo, hm]
def tb_spec_FrontMove_5.T : Bool × List (List Nat × List Nat) := (true, [([], []), ([0], [0]), ([1], [1]), ([], []), ([2, 3], [2, 3]), ([], []), ([5, 4, 4, 0, 1, 2, 3, 4, 5], [4, 5])])
def tb_spec_FrontMove_5.B : List Nat := [0, 1, 3, 0, 15, 0, 63]
theorem tb_spec_FrontMove_5.tab : rtab .any (opsOf Try.f99 5) = tb_spec_FrontMove_5.T := by kernel_rfl
theorem tb_spec_FrontMove_5.bits : waitsOk tb_spec_FrontMove_5.T.2 tb_spec_FrontMove_5.B = true := by kernel_rfl
def tb_spec_FrontMove_9.T : Bool × List (List Nat × List Nat) := (true, [([], []), ([], []), ([], []), ([1, 2], [1, 2]), ([3], [3]), ([], []), ([4, 5], [4, 5]), ([0, 6, 6], [0, 6]), ([7, 7, 0, 1, 2, 3, 4, 5, 6, 7], [7])])
def tb_spec_FrontMove_9.B : List Nat := [0, 0, 0, 6, 14, 0, 62, 127, 255]
theorem tb_spec_FrontMove_9.tab : rtab .any (opsOf Try.f99 9) = tb_spec_FrontMove_9.T := by kernel_rfl
theorem tb_spec_FrontMove_9.bits : waitsOk tb_spec_FrontMove_9.T.2 tb_spec_FrontMove_9.B = true := by kernel_rfl
set_option maxRecDepth 100000 in
set_option maxHeartbeats 4000000 in
theorem spec_MoveH (v : Value) (f : List Tm) (t : Tm) (w : World) (h : Sl kTm w v f) (hl : f.length ≤ 1048576) (hf : frontOk f = true) (ht : tOk t = true) : Calls Try.prog 99 #[v, .agg #[.int .i64 t.f0, .int .i64 t.f1]] w (RetV w (.agg #[.int .i64 (moved f t).f0, .int .i64 (moved f t).f1])) := by
 have HS := Aside0.mk h
 obtain ⟨A, c_, rfl, HC, hr⟩ := h
 have hm := Kd.C_max hr
 have HR := Aside0.mk hr
 clear hr
 have HB := Aside0.mk (Below.refl w.heap.size w)
 go_enter Try.func99, Try.ntmps99
 go_upto_region 1 with fail
 refine name_world fun W0 hW0 => ?_
 have hb0 : Below w.heap.size w W0 := hW0 ▸ below_alloc (below_alloc (Below.refl _ _) _) _
 have K0 : W0.heap[w.heap.size]? = some (.cells #[.int .i64 t.f0, .int .i64 t.f1] 43 (0, 0)) := by rw [hW0]; exact (blk_alloc (blk_new w _) _)
 obtain ⟨T, hT⟩ : ∃ T, T = w.heap.size + 1 := ⟨_, rfl⟩
 have T0 : W0.heap[T]? = some (.cells #[.int .i64 0, .int .i64 0] 43 (0, 0)) := by rw [hW0, hT]; have := blk_new (w.alloc (.cells #[.int .i64 t.f0, .int .i64 t.f1] 43 (0, 0))) (.cells #[.int .i64 0, .int .i64 0] 43 (0, 0)); simpa using this
 rw [← hT]
 obtain ⟨K, hK⟩ : ∃ K, K = w.heap.size := ⟨_, rfl⟩
 rw [← hK] at K0 ⊢
 have HTw := Aside0.mk (show w.heap.size ≤ T by omega)
 have HK := Aside0.mk K0
 have HT := Aside0.mk T0
 replace HB := Aside0.mk hb0
 have HC1 := Aside0.mk (show Calls Try.prog 87 #[.slice A f.length c_] W0 (RetV W0 (.bool true)) from by have := spec_FrontOk _ f W0 (HS.out.below hb0); rwa [hf] at this)
 have HC2 := Aside0.mk (show ∀ W, Calls Try.prog 29 #[.agg #[.int .i64 t.f0, .int .i64 t.f1]] W (RetV W (.bool true)) from fun W => by have := spec_TimeOk t.f0 t.f1 W; rwa [show tOk ⟨t.f0, t.f1⟩ = true from ht] at this)
 have HFt := Aside0.mk (And.intro hf ht)
 clear hW0 hT hK K0 T0 hb0 hf ht
 have k0 := blk_cell HK.out 0
 have k1 := blk_cell HK.out 1
 go_upto_region 3 with (first
  | (go_at_call 87; ((with_reducible refine HC1.out.mono ?_); rintro e wa ⟨rfl, hb⟩; replace HT := Aside0.mk (blk_below HT.out hb); replace HK := Aside0.mk (blk_below HK.out hb); replace HB := Aside0.mk (bthen HB.out hb); replace k0 := pw_cell_below hb k0; replace k1 := pw_cell_below hb k1; clear hb))
  | (go_at_call 29; ((with_reducible refine (HC2.out _).mono ?_); rintro e wb ⟨rfl, hb⟩; replace HT := Aside0.mk (blk_below HT.out hb); replace HK := Aside0.mk (blk_below HK.out hb); replace HB := Aside0.mk (bthen HB.out hb); replace k0 := pw_cell_below hb k0; replace k1 := pw_cell_below hb k1; clear hb)))
 clear HC1 HC2
 by_cases hf0 : f.length = 0
 ·have hz : ((f.length : Int) == 0) = true := by rw [hf0]; rfl
  have e0 := List.eq_nil_of_length_eq_zero hf0
  have t0 := blk_cell HT.out 0
  have t1 := blk_cell HT.out 1
  have tf0 := blk_frozen HT.out 0
  have tf1 := blk_frozen HT.out 1
  clear hf0
  go_wp2
  refine ret_cell (p := 4) (g := T) rfl rfl rfl (blk2 HT.out _ _) Try.underlying43 rfl (by kernel_rfl) ?_
  subst e0
  exact RetV.mk rfl (below_set (below_set HB.out HTw.out) HTw.out)
 ·have hz : ((f.length : Int) == 0) = false := by rw [beq_eq_false_iff_ne]; omega
  have hp : 0 < f.length := by omega
  have hpz : (0 : Int) < (f.length : Int) := by omega
  clear hf0
  obtain ⟨ad, x, e, HX, h0, h1⟩ := rdTm0 HR.out HB.out hp
  cases e
  have HTJ := fun W => spec_TimeJoin x.f0 x.f1 t.f0 t.f1 W
  have HM0 := Aside0.mk (moved_one HFt.out.1 HFt.out.2 HX.out)
  have hwb := HB.out.size
  have hTl := blk_lt HT.out
  have hKl := blk_lt HK.out
  go_upto_region 5 with fail
  have H0 : wb.drew.cell? ad = some (.int .i64 x.f0) := h0
  have H1 : wb.drew.cell? ⟨ad.block, ad.off + 1, none⟩ = some (.int .i64 x.f1) := h1
  have K0 : wb.drew.cell? ⟨K, 0, none⟩ = some (.int .i64 t.f0) := k0
  have K1 : wb.drew.cell? ⟨K, 1, none⟩ = some (.int .i64 t.f1) := k1
  clear h0 h1 k0 k1
  generalize hz0 : tJoin ⟨x.f0, x.f1⟩ ⟨t.f0, t.f1⟩ = z at HTJ
  have HZ := Aside0.mk (show tJoin x t = z from hz0)
  clear hz0
  have HTJ := Aside0.mk HTJ
  have HD0 := Aside0.mk (below_drew (Below.refl wb.heap.size wb))
  refine start_ (n := 7) (S := fun w' => w'.cell? ad = some (.int .i64 x.f0) ∧ w'.cell? ⟨ad.block, ad.off + 1, none⟩ = some (.int .i64 x.f1) ∧ w'.cell? ⟨K, 0, none⟩ = some (.int .i64 t.f0) ∧ w'.cell? ⟨K, 1, none⟩ = some (.int .i64 t.f1)) (ds := [6]) #[false, false, false, false, false, false, false] (by kernel_rfl) rfl rfl ⟨H0, H1, K0, K1⟩ (fun hHeld => ?_)
  refine with_tabW tb_spec_FrontMove_5.tab tb_spec_FrontMove_5.bits (fun HT_ HW_ => ?_)
  refine pure_ (i := 0) (N := some 20) (v := ?_) (a' := ?_) #[true, false, false, false, false, false, false] rfl rfl (any_of HT_.out (by kernel_rfl)) (fun _ _ _ h => h) (Or.inl ⟨by rfl, ?_⟩) ?_ ?_
  rotate_left
  ·intro w'
   go_simp
   with_reducible rfl
  rotate_left
  ·simp only [Act.put, setIfInBounds_toArray, set_cons_zero, set_cons_succ, i64_w]
   rfl
  refine pure_ (i := 1) (N := some 21) (v := ?_) (a' := ?_) #[true, true, false, false, false, false, false] rfl rfl (any_of HT_.out (by kernel_rfl)) (fun _ _ _ h => h) (Or.inl ⟨by rfl, ?_⟩) ?_ ?_
  rotate_left
  ·intro w'
   go_simp
   with_reducible rfl
  rotate_left
  ·simp only [Act.put, setIfInBounds_toArray, set_cons_zero, set_cons_succ, i64_w]
   rfl
  refine take_ (i := 2) (N := some 22) (v := ?_) (a' := ?_) #[true, true, true, false, false, false, false] rfl rfl (take_ofW HT_.out HW_.out (by kernel_rfl)) (fun _ _ _ h => h) (Or.inl ⟨by rfl, ?_⟩) hHeld ?_ ?_
  rotate_left
  ·rintro w' ⟨s0, s1, s2, s3⟩
   go_simp
   with_reducible rfl
  rotate_left
  ·simp only [Act.put, setIfInBounds_toArray, set_cons_zero, set_cons_succ, i64_w]
   rfl
  refine take_ (i := 3) (N := some 23) (v := ?_) (a' := ?_) #[true, true, true, true, false, false, false] rfl rfl (take_ofW HT_.out HW_.out (by kernel_rfl)) (fun _ _ _ h => h) (Or.inl ⟨by rfl, ?_⟩) hHeld ?_ ?_
  rotate_left
  ·rintro w' ⟨s0, s1, s2, s3⟩
   go_simp
   with_reducible rfl
  rotate_left
  ·simp only [Act.put, setIfInBounds_toArray, set_cons_zero, set_cons_succ, i64_w]
   rfl
  refine join_ (σ := Nat) 1 #[true, true, true, true, true, true, false] (fun s => [(24, .agg #[.int .i64 z.f0, .int .i64 z.f1]), (5, .pointer (some ⟨s, 0, none⟩))]) (fun s w' => w'.cell? ad = some (.int .i64 x.f0) ∧ w'.cell? ⟨ad.block, ad.off + 1, none⟩ = some (.int .i64 x.f1) ∧ w'.cell? ⟨K, 0, none⟩ = some (.int .i64 t.f0) ∧ w'.cell? ⟨K, 1, none⟩ = some (.int .i64 t.f1) ∧ wb.heap.size ≤ s ∧ w'.heap[s]? = some (.cells #[.int .i64 0, .int .i64 0] 43 (0, 0)) ∧ Below wb.heap.size wb w') ?_ ?_
  rotate_left
  ·intro hCont
   refine two_ (i := 4) (j := 5) (Ni := some 24) (Nj := some 5) #[true, true, true, true, true, false, false] #[true, true, true, true, false, true, false] rfl rfl rfl rfl (two_of HT_.out (by kernel_rfl)) (by decide) (by decide) (fun K hK => ?_) (fun K hK => ?_)
   ·skip
    refine goes_ Try.func89 (by kernel_rfl) rfl #[.agg #[.int .i64 x.f0, .int .i64 x.f1], .agg #[.int .i64 t.f0, .int .i64 t.f1]] (by rfl) rfl rfl (by simp only [List.map_toArray, List.map_cons, List.map_nil]; rfl) ?_
    with_reducible refine (HTJ.out _).mono ?_
    rintro e wc ⟨rfl, hb⟩
    refine ⟨_, rfl, ?_⟩
    have HD1 := Aside0.mk (bthen HD0.out hb)
    refine hK.out _ _ ⟨pw_cell_below hb H0, pw_cell_below hb H1, pw_cell_below hb K0, pw_cell_below hb K1⟩ (fun hHeld => ?_)
    clear hK K
    refine norm_ (a' := ?_) ?_ ?_
    rotate_left
    ·show Act.put _ (some 24) _ = _
     simp only [Act.put, setIfInBounds_toArray, set_cons_zero, set_cons_succ, i64_w]
     rfl
    refine one_ (i := 5) (N := some 5) #[true, true, true, true, true, true, false] rfl rfl (one_of HT_.out (by kernel_rfl)) (by decide) (fun K hK => ?_)
    refine box_step ?hb9 (N := 5) ?hd9 (cs := #[.int .i64 0, .int .i64 0]) (t := 43) ?hr9 ?_; (case hd9 => rfl); (case hb9 => rfl); (case hr9 => first|(go_simp; done)|(go_simp; rfl))
    intro Y hYe wd hy hby
    have HY := Aside0.mk hy
    have hYN : wb.heap.size ≤ Y := by rw [hYe]; exact HD1.out.size
    have HD2 := Aside0.mk (bthen HD1.out hby)
    clear hy hYe
    refine hK.out _ _ ⟨pw_cell_below (bthen hb hby) H0, pw_cell_below (bthen hb hby) H1, pw_cell_below (bthen hb hby) K0, pw_cell_below (bthen hb hby) K1⟩ (fun hHeld => ?_)
    clear hK K
    refine norm_ (a' := ?_) ?_ ?_
    rotate_left
    ·show Act.put _ (some 5) _ = _
     simp only [Act.put, setIfInBounds_toArray, set_cons_zero, set_cons_succ, i64_w]
     rfl
    exact norm_ (by simp only [Go.Proofs.YtkdendlgaaimbaaW.PrintLast.putAll, Act.put, List.setIfInBounds_toArray, List.set_cons_zero, List.set_cons_succ]) (hCont Y _ ⟨pw_cell_below (bthen hb hby) H0, pw_cell_below (bthen hb hby) H1, pw_cell_below (bthen hb hby) K0, pw_cell_below (bthen hb hby) K1, hYN, HY.out, HD2.out⟩)
   ·skip
    refine box_step ?hb9 (N := 5) ?hd9 (cs := #[.int .i64 0, .int .i64 0]) (t := 43) ?hr9 ?_; (case hd9 => rfl); (case hb9 => rfl); (case hr9 => first|(go_simp; done)|(go_simp; rfl))
    intro Y hYe wc hy hby
    have HY := Aside0.mk hy
    have hYN : wb.heap.size ≤ Y := by rw [hYe]; exact HD0.out.size
    have HD1 := Aside0.mk (bthen HD0.out hby)
    clear hy hYe
    refine hK.out _ _ ⟨pw_cell_below hby H0, pw_cell_below hby H1, pw_cell_below hby K0, pw_cell_below hby K1⟩ (fun hHeld => ?_)
    clear hK K
    refine norm_ (a' := ?_) ?_ ?_
    rotate_left
    ·show Act.put _ (some 5) _ = _
     simp only [Act.put, setIfInBounds_toArray, set_cons_zero, set_cons_succ, i64_w]
     rfl
    refine one_ (i := 4) (N := some 24) #[true, true, true, true, true, true, false] rfl rfl (one_of HT_.out (by kernel_rfl)) (by decide) (fun K hK => ?_)
    refine goes_ Try.func89 (by kernel_rfl) rfl #[.agg #[.int .i64 x.f0, .int .i64 x.f1], .agg #[.int .i64 t.f0, .int .i64 t.f1]] (by rfl) rfl rfl (by simp only [List.map_toArray, List.map_cons, List.map_nil]; rfl) ?_
    with_reducible refine (HTJ.out _).mono ?_
    rintro e wd ⟨rfl, hb⟩
    refine ⟨_, rfl, ?_⟩
    have HD2 := Aside0.mk (bthen HD1.out hb)
    replace HY := Aside0.mk (blk_below HY.out hb)
    refine hK.out _ _ ⟨pw_cell_below (bthen hby hb) H0, pw_cell_below (bthen hby hb) H1, pw_cell_below (bthen hby hb) K0, pw_cell_below (bthen hby hb) K1⟩ (fun hHeld => ?_)
    clear hK K
    refine norm_ (a' := ?_) ?_ ?_
    rotate_left
    ·show Act.put _ (some 24) _ = _
     simp only [Act.put, setIfInBounds_toArray, set_cons_zero, set_cons_succ, i64_w]
     rfl
    exact norm_ (by simp only [Go.Proofs.YtkdendlgaaimbaaW.PrintLast.putAll, Act.put, List.setIfInBounds_toArray, List.set_cons_zero, List.set_cons_succ]) (hCont Y _ ⟨pw_cell_below (bthen hby hb) H0, pw_cell_below (bthen hby hb) H1, pw_cell_below (bthen hby hb) K0, pw_cell_below (bthen hby hb) K1, hYN, HY.out, HD2.out⟩)
  rintro Y wc ⟨G0, G1, G2, G3, hYN, hy, hbc⟩
  have HY := Aside0.mk hy
  have HBC := Aside0.mk hbc
  have y0 := blk_cell hy 0
  have y1 := blk_cell hy 1
  have yf0 := blk_frozen hy 0
  have yf1 := blk_frozen hy 1
  clear hy hbc
  have hHeld : wc.cell? ad = some (.int .i64 x.f0) ∧ wc.cell? ⟨ad.block, ad.off + 1, none⟩ = some (.int .i64 x.f1) ∧ wc.cell? ⟨K, 0, none⟩ = some (.int .i64 t.f0) ∧ wc.cell? ⟨K, 1, none⟩ = some (.int .i64 t.f1) := ⟨G0, G1, G2, G3⟩
  refine norm_ (a' := ?_) ?_ ?_
  rotate_left
  ·simp only [Go.Proofs.YtkdendlgaaimbaaW.PrintLast.putAll, Act.put, List.setIfInBounds_toArray, List.set_cons_zero, List.set_cons_succ]
   rfl
  refine last_ (i := 6) (N := none) #[true, true, true, true, true, true, true] rfl rfl (one_of HT_.out (by kernel_rfl)) (by decide) (fun K hK => ?_)
  refine skip_ (w1 := ?_) (by rfl) rfl ?_ ?_
  rotate_left
  ·go_simp
   rfl
  refine hK.out _ _ ?_
  clear hK K
  refine done_ (done_of HT_.out (by kernel_rfl)) ?_
  have hTY : T ≠ Y := by omega
  have hKY : K ≠ Y := by omega
  have hYw : w.heap.size ≤ Y := by omega
  have hyb := blk2 HY.out (.int .i64 z.f0) (.int .i64 z.f1)
  have hkb := blk_far (blk_far (blk_below HK.out HBC.out) (p := ⟨Y, 0, none⟩) hKY (.int .i64 z.f0)) (p := ⟨Y, 1, none⟩) hKY (.int .i64 z.f1)
  have htb := blk_far (blk_far (blk_below HT.out HBC.out) (p := ⟨Y, 0, none⟩) hTY (.int .i64 z.f0)) (p := ⟨Y, 1, none⟩) hTY (.int .i64 z.f1)
  have hbb := below_set (g := Y) (j := 1) (v := .int .i64 z.f1) (below_set (g := Y) (j := 0) (v := .int .i64 z.f0) (bthen HB.out HBC.out) hYw) hYw
  obtain ⟨wz, hwz⟩ : ∃ wz, wz = (wc.setCell ⟨Y, 0, none⟩ (.int .i64 z.f0)).setCell ⟨Y, 1, none⟩ (.int .i64 z.f1) := ⟨_, rfl⟩
  rw [← hwz] at hyb hkb htb hbb ⊢
  replace HY := Aside0.mk hyb
  replace HK := Aside0.mk hkb
  replace HT := Aside0.mk htb
  replace HB := Aside0.mk hbb
  rw [HZ.out] at HM0
  clear hyb hkb htb hbb hwz y0 y1 yf0 yf1 G0 G1 G2 G3 hHeld HT_ HW_ H0 H1 K0 K1 HTJ HD0 HBC hYN hTl hKl hwb HX HZ
  clear hHeld
  go_wp2
  go_loopw [6] (fun i wr => ∃ (k : Nat) (o : Tm), k ≤ f.length ∧ i = .int .i64 k ∧ Aside0 (moveGo t o (f.drop k) = moved f t) ∧ Aside0 (wr.heap[Y]? = some (.cells #[.int .i64 o.f0, .int .i64 o.f1] 43 (0, 0))) ∧ Aside0 (wr.heap[K]? = some (.cells #[.int .i64 t.f0, .int .i64 t.f1] 43 (0, 0))) ∧ Aside0 (wr.heap[T]? = some (.cells #[.int .i64 0, .int .i64 0] 43 (0, 0))) ∧ Aside0 (Below w.heap.size w wr)) (fun i _ => f.length - (intOf i).toNat)
  case atStart => exact ⟨1, z, by omega, rfl, HM0, HY, HK, HT, HB⟩
  case round =>
   clear HM0 HY HK HT HB
   obtain ⟨k, o, hk, rfl, HM, HY, HK, HT, HB⟩ := hrel
   by_cases hlt : k < f.length
   ·obtain ⟨ad, x, e, HX, h0, h1⟩ := rdTm HR.out HB.out hlt
    cases e
    have HTJ := spec_TimeJoin x.f0 x.f1 t.f0 t.f1 wr.drew
    generalize hz0 : tJoin ⟨x.f0, x.f1⟩ ⟨t.f0, t.f1⟩ = z2 at HTJ
    have HTM := fun W => spec_TimeMeet o.f0 o.f1 z2.f0 z2.f1 W
    generalize hz1 : tMeet ⟨o.f0, o.f1⟩ ⟨z2.f0, z2.f1⟩ = z3 at HTM
    have HM2 : Aside0 (moveGo t z3 (f.drop (k + 1)) = moved f t) := ⟨by rw [← HM.out, moveGo_drop HX.out, show tJoin x t = z2 from hz0, show tMeet o z2 = z3 from hz1]⟩
    clear hz0 hz1
    have HTJ := Aside0.mk HTJ
    have HTM := Aside0.mk HTM
    have hki : (k : Int) < (f.length : Int) := Int.ofNat_lt.2 hlt
    have hk0 : (0 : Int) ≤ (k : Int) := Int.natCast_nonneg k
    go_upto_region 9 with fail
    have H0 : wr.drew.cell? (ad.add (k * 2)) = some (.int .i64 x.f0) := h0
    have H1 : wr.drew.cell? ⟨(ad.add (k * 2)).block, (ad.add (k * 2)).off + 1, none⟩ = some (.int .i64 x.f1) := h1
    have K0 : wr.drew.cell? ⟨K, 0, none⟩ = some (.int .i64 t.f0) := blk_cell HK.out 0
    have K1 : wr.drew.cell? ⟨K, 1, none⟩ = some (.int .i64 t.f1) := blk_cell HK.out 1
    have Y0 : wr.drew.cell? ⟨Y, 0, none⟩ = some (.int .i64 o.f0) := blk_cell HY.out 0
    have Y1 : wr.drew.cell? ⟨Y, 1, none⟩ = some (.int .i64 o.f1) := blk_cell HY.out 1
    clear h0 h1
    refine start_ (n := 9) (S := fun w' => w'.cell? (ad.add (k * 2)) = some (.int .i64 x.f0) ∧ w'.cell? ⟨(ad.add (k * 2)).block, (ad.add (k * 2)).off + 1, none⟩ = some (.int .i64 x.f1) ∧ w'.cell? ⟨K, 0, none⟩ = some (.int .i64 t.f0) ∧ w'.cell? ⟨K, 1, none⟩ = some (.int .i64 t.f1) ∧ w'.cell? ⟨Y, 0, none⟩ = some (.int .i64 o.f0) ∧ w'.cell? ⟨Y, 1, none⟩ = some (.int .i64 o.f1)) (ds := [8]) #[false, false, false, false, false, false, false, false, false] (by kernel_rfl) rfl rfl ⟨H0, H1, K0, K1, Y0, Y1⟩ (fun hHeld => ?_)
    refine with_tabW tb_spec_FrontMove_9.tab tb_spec_FrontMove_9.bits (fun HT_ HW_ => ?_)
    refine pure_ (i := 1) (N := some 32) (v := ?_) (a' := ?_) #[false, true, false, false, false, false, false, false, false] rfl rfl (any_of HT_.out (by kernel_rfl)) (fun _ _ _ h => h) (Or.inl ⟨by rfl, ?_⟩) ?_ ?_
    rotate_left
    ·intro w'
     go_simp
     with_reducible rfl
    rotate_left
    ·simp only [Act.put, setIfInBounds_toArray, set_cons_zero, set_cons_succ, i64_w]
     rfl
    refine pure_ (i := 2) (N := some 33) (v := ?_) (a' := ?_) #[false, true, true, false, false, false, false, false, false] rfl rfl (any_of HT_.out (by kernel_rfl)) (fun _ _ _ h => h) (Or.inl ⟨by rfl, ?_⟩) ?_ ?_
    rotate_left
    ·intro w'
     go_simp
     with_reducible rfl
    rotate_left
    ·simp only [Act.put, setIfInBounds_toArray, set_cons_zero, set_cons_succ, i64_w]
     rfl
    refine pure_ (i := 3) (N := some 34) (v := ?_) (a' := ?_) #[false, true, true, true, false, false, false, false, false] rfl rfl (any_of HT_.out (by kernel_rfl)) (fun _ _ _ h => h) (Or.inl ⟨by rfl, ?_⟩) ?_ ?_
    rotate_left
    ·intro w'
     go_simp
     with_reducible rfl
    rotate_left
    ·simp only [Act.put, setIfInBounds_toArray, set_cons_zero, set_cons_succ, i64_w]
     rfl
    refine take_ (i := 0) (N := some 31) (v := ?_) (a' := ?_) #[true, true, true, true, false, false, false, false, false] rfl rfl (take_ofW HT_.out HW_.out (by kernel_rfl)) (fun _ _ _ h => h) (Or.inl ⟨by rfl, ?_⟩) hHeld ?_ ?_
    rotate_left
    ·rintro w' ⟨s0, s1, s2, s3, s4, s5⟩
     go_simp
     with_reducible rfl
    rotate_left
    ·simp only [Act.put, setIfInBounds_toArray, set_cons_zero, set_cons_succ, i64_w]
     rfl
    refine take_ (i := 4) (N := some 35) (v := ?_) (a' := ?_) #[true, true, true, true, true, false, false, false, false] rfl rfl (take_ofW HT_.out HW_.out (by kernel_rfl)) (fun _ _ _ h => h) (Or.inl ⟨by rfl, ?_⟩) hHeld ?_ ?_
    rotate_left
    ·rintro w' ⟨s0, s1, s2, s3, s4, s5⟩
     go_simp
     with_reducible rfl
    rotate_left
    ·simp only [Act.put, setIfInBounds_toArray, set_cons_zero, set_cons_succ, i64_w]
     rfl
    refine take_ (i := 5) (N := some 36) (v := ?_) (a' := ?_) #[true, true, true, true, true, true, false, false, false] rfl rfl (take_ofW HT_.out HW_.out (by kernel_rfl)) (fun _ _ _ h => h) (Or.inl ⟨by rfl, ?_⟩) hHeld ?_ ?_
    rotate_left
    ·rintro w' ⟨s0, s1, s2, s3, s4, s5⟩
     go_simp
     with_reducible rfl
    rotate_left
    ·simp only [Act.put, setIfInBounds_toArray, set_cons_zero, set_cons_succ, i64_w]
     rfl
    refine one_ (i := 6) (N := some 37) #[true, true, true, true, true, true, true, false, false] rfl rfl (one_of HT_.out (by kernel_rfl)) (by decide) (fun K hK => ?_)
    refine goes_ Try.func89 (by kernel_rfl) rfl #[.agg #[.int .i64 x.f0, .int .i64 x.f1], .agg #[.int .i64 t.f0, .int .i64 t.f1]] (by rfl) rfl rfl (by simp only [List.map_toArray, List.map_cons, List.map_nil]; rfl) ?_
    with_reducible refine (HTJ.out).mono ?_
    rintro e w6 ⟨rfl, hb6⟩
    refine ⟨_, rfl, ?_⟩
    refine hK.out _ _ ⟨pw_cell_below hb6 H0, pw_cell_below hb6 H1, pw_cell_below hb6 K0, pw_cell_below hb6 K1, pw_cell_below hb6 Y0, pw_cell_below hb6 Y1⟩ (fun hHeld => ?_)
    clear hK K
    refine norm_ (a' := ?_) ?_ ?_
    rotate_left
    ·show Act.put _ (some 37) _ = _
     simp only [Act.put, setIfInBounds_toArray, set_cons_zero, set_cons_succ, i64_w]
     rfl
    refine one_ (i := 7) (N := some 38) #[true, true, true, true, true, true, true, true, false] rfl rfl (one_of HT_.out (by kernel_rfl)) (by decide) (fun K hK => ?_)
    refine goes_ Try.func144 (by kernel_rfl) rfl #[.agg #[.int .i64 o.f0, .int .i64 o.f1], .agg #[.int .i64 z2.f0, .int .i64 z2.f1]] (by rfl) rfl rfl (by simp only [List.map_toArray, List.map_cons, List.map_nil]; rfl) ?_
    with_reducible refine (HTM.out w6).mono ?_
    rintro e w7 ⟨rfl, hb7⟩
    refine ⟨_, rfl, ?_⟩
    have hb8 := bthen (bthen (below_drew (Below.refl wr.heap.size wr)) hb6) hb7
    have HY7 := Aside0.mk (blk_below HY.out hb8)
    have y0 := blk_cell HY7.out 0
    have y1 := blk_cell HY7.out 1
    have yf0 := blk_frozen HY7.out 0
    have yf1 := blk_frozen HY7.out 1
    refine hK.out _ _ ⟨pw_cell_below (bthen hb6 hb7) H0, pw_cell_below (bthen hb6 hb7) H1, pw_cell_below (bthen hb6 hb7) K0, pw_cell_below (bthen hb6 hb7) K1, pw_cell_below (bthen hb6 hb7) Y0, pw_cell_below (bthen hb6 hb7) Y1⟩ (fun hHeld => ?_)
    clear hK K
    refine norm_ (a' := ?_) ?_ ?_
    rotate_left
    ·show Act.put _ (some 38) _ = _
     simp only [Act.put, setIfInBounds_toArray, set_cons_zero, set_cons_succ, i64_w]
     rfl
    refine last_ (i := 8) (N := none) #[true, true, true, true, true, true, true, true, true] rfl rfl (one_of HT_.out (by kernel_rfl)) (by decide) (fun K hK => ?_)
    refine skip_ (w1 := ?_) (by rfl) rfl ?_ ?_
    rotate_left
    ·go_simp
     rfl
    refine hK.out _ _ ?_
    clear hK K
    refine done_ (done_of HT_.out (by kernel_rfl)) ?_
    have hyb := blk2 HY7.out (.int .i64 z3.f0) (.int .i64 z3.f1)
    have hkb := blk_far (blk_far (blk_below HK.out hb8) (p := ⟨Y, 0, none⟩) hKY (.int .i64 z3.f0)) (p := ⟨Y, 1, none⟩) hKY (.int .i64 z3.f1)
    have htb := blk_far (blk_far (blk_below HT.out hb8) (p := ⟨Y, 0, none⟩) hTY (.int .i64 z3.f0)) (p := ⟨Y, 1, none⟩) hTY (.int .i64 z3.f1)
    have hbb := below_set (g := Y) (j := 1) (v := .int .i64 z3.f1) (below_set (g := Y) (j := 0) (v := .int .i64 z3.f0) (bthen HB.out hb8) hYw) hYw
    obtain ⟨wz, hwz⟩ : ∃ wz, wz = (w7.setCell ⟨Y, 0, none⟩ (.int .i64 z3.f0)).setCell ⟨Y, 1, none⟩ (.int .i64 z3.f1) := ⟨_, rfl⟩
    rw [← hwz] at hyb hkb htb hbb ⊢
    replace HY := Aside0.mk hyb
    replace HK := Aside0.mk hkb
    replace HT := Aside0.mk htb
    replace HB := Aside0.mk hbb
    clear hyb hkb htb hbb hwz y0 y1 yf0 yf1 hHeld HT_ HW_ H0 H1 K0 K1 Y0 Y1 HTJ HTM HY7 hb6 hb7 hb8
    go_wp2
    go_roundw
    case rel => exact ⟨k + 1, z3, by omega, by go_num, HM2, HY, HK, HT, HB⟩
    case measure => simp [intOf]; omega
   ·have e3 := HM.out
    rw [List.drop_of_length_le (by omega)] at e3
    have e4 : o = moved f t := e3
    have y0 := blk_cell HY.out 0
    have y1 := blk_cell HY.out 1
    have t0 := blk_cell HT.out 0
    have t1 := blk_cell HT.out 1
    have tf0 := blk_frozen HT.out 0
    have tf1 := blk_frozen HT.out 1
    have HE4 := Aside0.mk e4
    clear e3 e4
    go_wp2
    refine ret_cell (p := 4) (g := T) rfl rfl rfl (blk2 HT.out _ _) Try.underlying43 rfl (by kernel_rfl) ?_
    rw [← HE4.out]
    exact RetV.mk rfl (below_set (below_set HB.out HTw.out) HTw.out)
end Go.Proofs.Ytkdendlgaaimbaa.X
