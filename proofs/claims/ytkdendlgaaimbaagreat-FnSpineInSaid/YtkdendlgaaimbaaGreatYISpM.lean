/- Conditions: none. -/
import Derived.Test.YtkdendlgaaimbaaGreatYISpI
import Derived.Test.YtkdendlgaaimbaaGreatYISpK
namespace Go.Proofs.YtkdendlgaaimbaaGreat.X
open Go.RowKit Go.Proofs.YtkdendlgaaimbaaGreatW.PrintWords Go.Proofs.YtkdendlgaaimbaaGreatW.PrintLast
open List (setIfInBounds_toArray set_cons_zero set_cons_succ)
set_option linter.unusedVariables false
set_option linter.unusedSimpArgs false
def kMx (W0 : World) : Kd (List Rw) where
 sz := 1
 E := [60]
 K := fun w xs cs => (Kd.slice 60 kRw).K w xs cs ∨ (kFo W0).K w xs cs
 M := fun w base ok xs cs => kSh.M w base ok xs cs ∨ (kFo W0).M w base ok xs cs
 K_len := fun h => h.elim (Kd.slice 60 kRw).K_len (kFo W0).K_len
 K_one := fun h => h.elim (Kd.slice 60 kRw).K_one (kFo W0).K_one
 K_below := fun hb h => h.imp ((Kd.slice 60 kRw).K_below hb) id
 K_of_M := fun h => h.imp kSh.K_of_M id
 M_mono := fun hk h => h.imp (kSh.M_mono hk) id
 M_bound := fun h => h.imp kSh.M_bound id
 M_move := fun hm h => h.imp (kSh.M_move hm) id
 M_lower := fun hb h => h.imp (kSh.M_lower hb) id
theorem Sl.of_Mx {W0 w : World} {base : Nat} {ok : Nat → Prop} {v : Value} {ls : List (List Rw)} (h : (kMx W0).R 27 w base ok v ls) (hb : Below W0.heap.size W0 w) : Sl (Kd.slice 60 kRw) w v ls := by
 obtain ⟨A, c, rfl, h1, h2⟩ := Kd.R_reads h
 refine ⟨A, c, rfl, h1, ReadsRow.imp_ h2 (Below.refl _ _) ?_⟩
 rintro xs cs (h3 | ⟨B, d, rfl, h3, h4⟩)
 ·exact h3
 ·exact ⟨B, d, rfl, h3, Kd.C_below h4 hb⟩
theorem mx_R {W0 w : World} {base : Nat} {ok : Nat → Prop} {v : Value} {ls : List (List Rw)} (h : Kd.S (Kd.slice 60 kRw) 27 w base ok v ls) : (kMx W0).R 27 w base ok v ls :=
 Kd.R_imp (d := kSh) (d' := kMx W0) rfl (fun _ _ _ _ _ hM => Or.inl hM) (sh_R h)
section
variable {ops : Array Oper} {rest : List Oper} {o : Oper} {a : Act} {Q : Exit → Act → World → Prop}
theorem appMx {W0 W : World} {base : Nat} {s x : Operand} {xs : List (List Rw)} {y : List Rw} {u : Value} {ok : Nat → Prop} (hgd : o.guard = none)
  (ho : o.op = .call { callee := .builtin .append, args := #[s, x], argTypes := #[23, 23] })
  (hx : a.eval x = .slice (some ⟨W.heap.size, 0, none⟩) 1 1) (HO : (kMx W0).R 27 W base ok (a.eval s) xs) (HM : (kMx W0).M W base (fun _ => False) y [u]) (hfresh : ∀ k, W.heap.size ≤ k → ok k) (hbase : base ≤ W.heap.size) (hl : xs.length < 3518437208000)
  (h : ∀ v1 w1, (kMx W0).R 27 w1 base ok v1 (xs ++ [y]) → Below base W w1 → W.grownBy w1 (a.eval s).ownBlock → wpList Tryz.prog ops Q rest (a.put o.dst v1) w1) :
  wpList Tryz.prog ops Q (o :: rest) a (W.alloc (.cells #[u] 27)) :=
 Kd.R_append (kMx W0) (w0 := W) base hgd s x 23 27 (.slice none 0 0) 24 ho underRwSS infoRwS rfl (show 0 < 1 from Nat.zero_lt_one) (by omega) _ xs y [u] ok (fun _ => False) rfl hx HM (fun q hq => hq.elim) hfresh HO (Below.refl _ _) hbase (by omega) (fun v1 w1 h1 h2 h3 _ => h v1 w1 h1 h2 h3)
end
theorem SpO.below {w w' : World} {base : Nat} {a b : Value} {ls : List (List Rw)} {f : List Tm} (h : SpO w base a b ls f) (hb : Below w.heap.size w w') : SpO w' base a b ls f := ⟨Kd.S_below h.1 hb, Kd.R_below h.2 hb⟩
theorem in_noI {w w' : World} {ls : List (List Rw)} {f : List Tm} {b : List Rw} (h : inB ls f b = false) (hb : Below w.heap.size w w') : SpQ w (inL ls f b) (inF ls f b) (inB ls f b) (.returned (.tuple #[.agg #[.slice none 0 0, .slice none 0 0], .bool false])) w' := by
 unfold inL inF
 rw [h, if_neg (by simp), if_neg (by simp)]
 exact ⟨_, _, rfl, ⟨Kd.S_nil _ _ _ _ _, Kd.R_nil _ _ _ _ _⟩, hb⟩
theorem in_yesI {w w' : World} {ls : List (List Rw)} {f : List Tm} {b : List Rw} {u v : Value} (h : inB ls f b = true) (ht : SpO w' w.heap.size u v (inBase ls f ++ [b]) f) (hb : Below w.heap.size w w') : SpQ w (inL ls f b) (inF ls f b) (inB ls f b) (.returned (.tuple #[.agg #[u, v], .bool true])) w' := by
 unfold inL inF
 rw [if_pos h, if_pos h, h]
 exact ⟨_, _, rfl, ht, hb⟩
theorem inSp {ls : List (List Rw)} {f : List Tm} {b : List Rw} (h : SpB ls f) (hb : b.length ≤ 1048576) : SpB (inL ls f b) (inF ls f b) := by
 unfold inL inF
 cases hj : inB ls f b
 ·exact ⟨by simp, by simp, by simp⟩
 ·obtain ⟨_, _, _, _, g5⟩ := inB_iff.1 hj
  exact g5.b h.f
theorem least_in {ls : List (List Rw)} {n : Nat} (h : n + 1 < ls.length) : leastTo ls n + 1 < ls.length := by
 have := leastTo_lt ls n
 omega
theorem meas_lt {m n : Nat} (h : n + 1 < m) : m - (intOf (.int .i64 ((n : Int) + 1))).toNat < m - (intOf (.int .i64 (n : Int))).toNat := by
 simp [intOf]; omega
theorem wl_w {ls : List (List Rw)} {n : Nat} (h1 : (lay ls n).length ≤ 1048576) (h2 : (lay ls (n + 1)).length ≤ 1048576) : wrap64 (((lay ls n).length : Int) + ((lay ls (n + 1)).length : Int)) = ((wl ls n : Nat) : Int) := by unfold wl wrap64; omega
theorem least_if {ls : List (List Rw)} {n q : Nat} {za zb : Int} {bb : Bool} (h : leastTo ls (n + 1) = if wl ls n < wl ls q then n else q) (h1 : za = ((wl ls n : Nat) : Int)) (h2 : zb = ((wl ls q : Nat) : Int)) (h3 : decide (za < zb) = bb) : leastTo ls (n + 1) = if bb then n else q := by
 subst h1 h2 h3
 rw [h]
 by_cases hw : wl ls n < wl ls q
 ·rw [if_pos hw, if_pos (by simpa using hw)]
 ·rw [if_neg hw, if_neg (by simpa using hw)]
def tb_impl_SpineIn_15.T : Bool × List (List Nat × List Nat) := (true, [([], []), ([0], [0]), ([], []), ([1, 2], [1, 2]), ([3], [3]), ([4], [4]), ([], []), ([6], [6]), ([], []), ([8], [8]), ([7, 9], [7, 9]), ([10], [10]), ([11], [11]), ([5, 12], [5, 12]), ([], []), ([14], [14]), ([], []), ([15, 16], [15, 16]), ([17], [17]), ([18], [18]), ([], []), ([20], [20]), ([], []), ([22], [22]), ([21, 23], [21, 23]), ([24], [24]), ([25], [25]), ([19, 26], [19, 26]), ([13, 27], [13, 27])])
def tb_impl_SpineIn_15.B : List Nat := [0, 1, 0, 7, 15, 31, 0, 64, 0, 256, 960, 1984, 4032, 8191, 0, 16384, 0, 114688, 245760, 507904, 0, 1048576, 0, 4194304, 15728640, 32505856, 66060288, 134201344, 268435455]
theorem tb_impl_SpineIn_15.tab : rtab .any (opsOf Tryz.f8 15) = tb_impl_SpineIn_15.T := by kernel_rfl
theorem tb_impl_SpineIn_15.bits : waitsOk tb_impl_SpineIn_15.T.2 tb_impl_SpineIn_15.B = true := by kernel_rfl
set_option maxRecDepth 100000 in
set_option maxHeartbeats 4000000 in
theorem impl_SpineIn (u v vb : Value) (ls : List (List Rw)) (f : List Tm) (b : List Rw) (w : World) (h : SpS w u v ls f) (h2 : Sl kRw w vb b) (hb : SpB ls f) (hbl : b.length ≤ 1048576) : Calls Tryz.prog 8 #[.agg #[u, v], vb] w (SpQ w (inL ls f b) (inF ls f b) (inB ls f b)) := by
 have HS := Aside0.mk h
 have HVB := Aside0.mk h2
 have HVW := Aside0.mk h2
 obtain ⟨⟨A, c, rfl, hc, hr⟩, A2, c2, rfl, hc2, hr2⟩ := h
 obtain ⟨A3, c3, rfl, hc3, hr3⟩ := h2
 have hm1 := Kd.C_max hr
 have HRW := Aside0.mk hr
 have HCB := Aside0.mk hr3
 have hcb := hc3
 clear hr hr2 hr3
 have HB := Aside0.mk (Below.refl w.heap.size w)
 go_enter Tryz.func8, Tryz.ntmps8
 go_upto_region 1 with fail
 refine name_world fun W0 hW0 => ?_
 have hb0 : Below w.heap.size w W0 := hW0 ▸ below_alloc (below_alloc (Below.refl _ _) _) _
 have K0 : W0.heap[w.heap.size]? = some (.cells #[.slice A ls.length c, .slice A2 f.length c2] 26 (0, 0)) := by rw [hW0]; exact (blk_alloc (blk_new w _) _)
 obtain ⟨T, hT⟩ : ∃ T, T = w.heap.size + 1 := ⟨_, rfl⟩
 have T0 : W0.heap[T]? = some (.cells #[.slice none 0 0, .slice none 0 0] 26 (0, 0)) := by rw [hW0, hT]; have := blk_new (w.alloc (.cells #[.slice A ls.length c, .slice A2 f.length c2] 26 (0, 0))) (.cells #[.slice none 0 0, .slice none 0 0] 26 (0, 0)); simpa using this
 have hT2 : w.heap.size ≤ T := by omega
 have hK0 : w.heap.size < W0.heap.size := blk_lt K0
 have HK := Aside0.mk K0
 have HT := Aside0.mk T0
 have hne : w.heap.size ≠ T := by omega
 try rw [← hT]
 clear hW0 hT K0 T0
 replace HB := Aside0.mk hb0
 replace HS := Aside0.mk (HS.out.below hb0)
 replace HVB := Aside0.mk (HVB.out.below hb0)
 have HS1 : Aside0 (Sl (Kd.slice 60 kRw) W0 (.slice A ls.length c) ls) := ⟨HS.out.1⟩
 have HS2 : Aside0 (Sl kTm W0 (.slice A2 f.length c2) f) := ⟨HS.out.2⟩
 clear hb0
 have hlm : ls.length ≤ 281474976710656 := by have := hb.l; omega
 have k0 := blk_cell HK.out 0
 have k1 := blk_cell HK.out 1
 by_cases hgo : spineOk ls f = true ∧ batchOk b = true
 case neg =>
  have HJ := Aside0.mk (show inB ls f b = false from in_not (fun h => hgo ⟨spineOk_iff.2 h.1, h.2.1⟩))
  have hbad : spineOk ls f = false ∨ (spineOk ls f = true ∧ batchOk b = false) := by
   cases h1 : spineOk ls f <;> cases h2 : batchOk b <;> simp_all
  clear hgo
  rcases hbad with hs | ⟨hs, hbo⟩
  all_goals
   go_wp2_with (first
    | (go_at_call 16; ((with_reducible refine (impl_SpineOk (.slice A ls.length c) (.slice A2 f.length c2) ls f _ HS1.out HS2.out hlm).mono ?_); rintro e w' ⟨rfl, hbb⟩; replace HT := Aside0.mk (blk_below HT.out hbb); replace HVB := Aside0.mk (HVB.out.below hbb); replace HB := Aside0.mk (bthen HB.out hbb); have z0 := blk_cell HT.out 0; have z1 := blk_cell HT.out 1; have zf0 := blk_frozen HT.out 0; have zf1 := blk_frozen HT.out 1; clear hbb))
    | (go_at_call 34; ((with_reducible refine (impl_BatchOk _ b _ HVB.out).mono ?_); rintro e w' ⟨rfl, hbb⟩; replace HT := Aside0.mk (blk_below HT.out hbb); replace HB := Aside0.mk (bthen HB.out hbb); replace z0 := blk_cell HT.out 0; replace z1 := blk_cell HT.out 1; replace zf0 := blk_frozen HT.out 0; replace zf1 := blk_frozen HT.out 1; clear hbb)))
   refine bodyPost_ret (results_ct rfl _ _ T 26 #[.slice none 0 0, .slice none 0 0] (0, 0) _ rfl (blk2 HT.out _ _) Tryz.underlying26 rfl (by kernel_rfl)) rfl ?_
   exact in_noI HJ.out (below_set (below_set HB.out hT2) hT2)
 obtain ⟨hs, hbo⟩ := hgo
 have hso := spineOk_iff.1 hs
 have hfew := hso.few
 have HRO := Aside0.mk (rowsOk_all (batchOk_rows hbo))
 go_upto_region 3 with (first
  | (go_at_call 16; ((with_reducible refine (impl_SpineOk (.slice A ls.length c) (.slice A2 f.length c2) ls f _ HS1.out HS2.out hlm).mono ?_); rintro e w' ⟨rfl, hbb⟩; replace HT := Aside0.mk (blk_below HT.out hbb); replace HK := Aside0.mk (blk_below HK.out hbb); replace HS := Aside0.mk (HS.out.below hbb); replace HVB := Aside0.mk (HVB.out.below hbb); replace HB := Aside0.mk (bthen HB.out hbb); clear hbb k0 k1))
  | (go_at_call 34; ((with_reducible refine (impl_BatchOk _ b _ HVB.out).mono ?_); rintro e W1 ⟨rfl, hbb⟩; replace HT := Aside0.mk (blk_below HT.out hbb); replace HK := Aside0.mk (blk_below HK.out hbb); replace HS := Aside0.mk (HS.out.below hbb); replace HVB := Aside0.mk (HVB.out.below hbb); replace HB := Aside0.mk (bthen HB.out hbb); clear hbb)))
 clear HS1 HS2
 have HBR := Aside0.mk (Below.refl W1.heap.size W1)
 obtain ⟨A3', c3', e3, hc3', hC3⟩ := HVB.out
 cases e3
 have HC3 := Aside0.mk hC3
 have hmb := Kd.C_max hC3
 clear hC3
 have hfr := hso.front
 have HFR := Aside0.mk hfr
 clear hfr
 have hKW := blk_lt HK.out
 have HSF : Aside0 (Sl kTm W1 (.slice A2 f.length c2) f) := ⟨HS.out.2⟩
 go_wp2
 go_loopw [24] (fun i wr => ∃ k : Nat, k ≤ b.length ∧ i = .int .i64 k ∧ Aside0 (∀ r ∈ b.take k, askOk f r.f2 = true) ∧ Aside0 (Below W1.heap.size W1 wr)) (fun i _ => b.length - (intOf i).toNat)
 case atStart => exact ⟨0, Nat.zero_le _, rfl, ⟨by simp⟩, HBR⟩
 case round =>
  clear HBR
  obtain ⟨k, hk, rfl, HA, HBW⟩ := hrel
  by_cases hlt : k < b.length
  ·obtain ⟨ad, x, e, HX, h0, h1, h2, h3, h4⟩ := rdRw HC3.out HBW.out hlt
   cases e
   have hkw : w.heap.size < wr.heap.size := Nat.lt_of_lt_of_le hKW HBW.out.size
   have kk : wr.cell? ⟨w.heap.size, 1, none⟩ = some (.slice A2 f.length c2) := blk_cell (blk_below HK.out HBW.out) 1
   have HB2 := Aside0.mk (below_alloc HBW.out (.cells #[.int .i64 x.f0, .int .i64 x.f1, .int .i64 x.f2.f0, .int .i64 x.f2.f1, .int .i64 x.f3] 60))
   have HF2 := Aside0.mk (HSF.out.below HB2.out)
   have HT2 := Aside0.mk (blk_below HT.out HB2.out)
   have hthree : (f.length = 0 ∧ askOk f x.f2 = true) ∨ (0 < f.length ∧ beyond f x.f2 = true ∧ askOk f x.f2 = true) ∨ (0 < f.length ∧ beyond f x.f2 = false ∧ askOk f x.f2 = false) := by
    unfold askOk
    cases f with
    | nil => exact .inl ⟨rfl, rfl⟩
    | cons a f => cases hb2 : beyond (a :: f) x.f2; exact .inr (.inr ⟨by simp, rfl, rfl⟩); exact .inr (.inl ⟨by simp, rfl, rfl⟩)
   rcases hthree with ⟨hlen, hask⟩ | ⟨hlen, hby, hask⟩ | ⟨hlen, hby, hask⟩
   case' inl =>
    have HASK := Aside0.mk hask
    have hl0 : decide (0 < f.length) = false := decide_eq_false (by omega)
    have HB3 := HB2
    clear hask hlen HF2 HT2 HB2
    go_wp2
   case' inr.inl =>
    have HASK := Aside0.mk hask
    have hl0 : decide (0 < f.length) = true := decide_eq_true hlen
    have CB : ∀ W, Sl kTm W (.slice A2 f.length c2) f → Calls Tryz.prog 35 #[.slice A2 f.length c2, .agg #[.int .i64 x.f2.f0, .int .i64 x.f2.f1]] W (RetV W (.bool true)) := fun W h => by have := impl_beyond (.slice A2 f.length c2) f x.f2.f0 x.f2.f1 W h; rw [show beyond f ⟨x.f2.f0, x.f2.f1⟩ = true from hby] at this; exact this
    clear hask hlen hby HT2
    go_wp2_with (go_at_call 35; ((with_reducible refine (CB _ HF2.out).mono ?_); rintro e w5 ⟨rfl, hbb⟩; have HB3 := Aside0.mk (bthen HB2.out hbb); clear hbb))
   case' inr.inr =>
    have HJ := Aside0.mk (show inB ls f b = false from in_not (fun h => by have := h.2.2.1 x (List.mem_of_getElem? HX.out); rw [hask] at this; cases this))
    have hl0 : decide (0 < f.length) = true := decide_eq_true hlen
    have CB : ∀ W, Sl kTm W (.slice A2 f.length c2) f → Calls Tryz.prog 35 #[.slice A2 f.length c2, .agg #[.int .i64 x.f2.f0, .int .i64 x.f2.f1]] W (RetV W (.bool false)) := fun W h => by have := impl_beyond (.slice A2 f.length c2) f x.f2.f0 x.f2.f1 W h; rw [show beyond f ⟨x.f2.f0, x.f2.f1⟩ = false from hby] at this; exact this
    clear hask hlen hby
    go_wp2_with (go_at_call 35; ((with_reducible refine (CB _ HF2.out).mono ?_); rintro e w5 ⟨rfl, hbb⟩; have HB3 := Aside0.mk (bthen HB2.out hbb); replace HT2 := Aside0.mk (blk_below HT2.out hbb); have z0 := blk_cell HT2.out 0; have z1 := blk_cell HT2.out 1; have zf0 := blk_frozen HT2.out 0; have zf1 := blk_frozen HT2.out 1; clear hbb))
    refine bodyPost_ret (results_ct rfl _ _ T 26 #[.slice none 0 0, .slice none 0 0] (0, 0) _ rfl (blk2 HT2.out _ _) Tryz.underlying26 rfl (by kernel_rfl)) rfl ?_
    exact in_noI HJ.out (below_set (below_set (bthen HB.out HB3.out) hT2) hT2)
   all_goals
    go_roundw
    case rel => exact ⟨k + 1, by omega, by go_num, ⟨by rw [take_snoc HX.out]; intro r hr; rcases List.mem_append.1 hr with hr | hr; exact HA.out r hr; rw [List.mem_singleton.1 hr]; exact HASK.out⟩, HB3⟩
    case measure => simp [intOf]; omega
  ·have HAll := Aside0.mk (show ∀ r ∈ b, askOk f r.f2 = true by have := HA.out; rwa [List.take_of_length_le (by omega)] at this)
   clear HA
   have HTr := Aside0.mk (blk_below HT.out HBW.out)
   have HKr := Aside0.mk (blk_below HK.out HBW.out)
   have HSr := Aside0.mk (HS.out.below HBW.out)
   have HBr := Aside0.mk (bthen HB.out HBW.out)
   have kk0 : wr.cell? ⟨w.heap.size, 0, none⟩ = some (.slice A ls.length c) := blk_cell HKr.out 0
   have kk1 : wr.cell? ⟨w.heap.size, 1, none⟩ = some (.slice A2 f.length c2) := blk_cell HKr.out 1
   go_upto_region 10 with (go_at_call 36; ((with_reducible refine (impl_spineCopy (.slice A ls.length c) (.slice A2 f.length c2) ls f _ HSr.out hb).mono ?_); rintro e w4 ⟨xa, xb, rfl, hr, hbb⟩; have HX := Aside0.mk (SpO.lower hr HBr.out.size); obtain ⟨A7, c7, rfl⟩ := Kd.S_slice hr.1; obtain ⟨A8, c8, rfl⟩ := Kd.R_slice hr.2; replace HTr := Aside0.mk (blk_below HTr.out hbb); replace HKr := Aside0.mk (blk_below HKr.out hbb); replace HSr := Aside0.mk (HSr.out.below hbb); replace HBr := Aside0.mk (bthen HBr.out hbb); clear hr hbb kk0 kk1))
   refine name_world fun W5 hW5 => ?_
   have hb5 : Below w4.heap.size w4 W5 := hW5 ▸ below_alloc (Below.refl _ _) _
   obtain ⟨X, hX, hX1⟩ : ∃ X, X = w4.heap.size ∧ X < W5.heap.size := ⟨_, rfl, by rw [hW5]; simp⟩
   have HXB := Aside0.mk (show W5.heap[X]? = some (.cells #[.slice A7 ls.length c7, .slice A8 f.length c8] 26 (0, 0)) by rw [hW5, hX]; first | exact blk_new _ _ | simp)
   have hX2 : T < X := by rw [hX]; exact blk_lt HTr.out
   try rw [← hX]
   replace HTr := Aside0.mk (blk_below HTr.out hb5)
   replace HKr := Aside0.mk (blk_below HKr.out hb5)
   replace HSr := Aside0.mk (HSr.out.below hb5)
   replace HBr := Aside0.mk (bthen HBr.out hb5)
   replace HX := Aside0.mk (SpO.below HX.out hb5)
   have hbw : w.heap.size ≤ W5.heap.size := HBr.out.size
   have hwX : w.heap.size ≤ X := by omega
   clear hW5 hX hb5 HBW
   have k50 : W5.cell? ⟨w.heap.size, 0, none⟩ = some (.slice A ls.length c) := blk_cell HKr.out 0
   have hl6a : ls.length < 3518437208000 := by omega
   by_cases h6 : ls.length = 6
   case neg =>
    have g6 : ((ls.length : Int) == 6) = false := by simp; omega
    go_upto_region 21 with fail
    have HXt := HXB
    have HSL := Aside0.mk (mx_R (W0 := w) (Kd.S_mono (Kd.S_types (Kd.S_types HX.out.1 HXB.out (by decide)) HTr.out (by decide)) (ok' := fun q => q ≠ X ∧ q ≠ T) (fun q hq => ⟨hq.1.2, hq.2⟩)))
    have HFt := Aside0.mk HX.out.2
    have HTt := HTr
    have HBt := HBr
    have HIE := Aside0.mk (show SameL (inBase ls f) ls from by unfold SameL inBase; rw [if_neg h6])
    have HI3 := Aside0.mk (show ls.length = 6 → joinB ls f (leastL6 ls : Nat) = true from fun h => absurd h h6)
    have hl6 := hl6a
    clear h6 g6 k50
    have HXl := Aside0.mk (blk_lt HTt.out)
    have x0 := blk_cell HXt.out 0
    have HMB := Aside0.mk (show (kMx w).M W5 w.heap.size (fun _ => False) b [.slice A3 b.length c3] from Or.inr ⟨A3, c3, rfl, hcb, HCB.out⟩)
    go_wp2_with (at_builtin; (refine appMx (W0 := w) (W := W5) (base := w.heap.size) (xs := ls) (y := b) (u := .slice A3 b.length c3) (ok := fun q => q ≠ X ∧ q ≠ T) rfl rfl rfl HSL.out HMB.out (fun q hq => ⟨Ne.symm (Nat.ne_of_lt (Nat.lt_of_lt_of_le (blk_lt HXt.out) hq)), Ne.symm (Nat.ne_of_lt (Nat.lt_of_lt_of_le HXl.out hq))⟩) HBt.out.size hl6 ?_; intro v14 w3 hr3 hb3 hg3; obtain ⟨A14, c14, e14⟩ := Kd.R_slice hr3; obtain ⟨m14, hm14⟩ : ∃ m, m = (ls ++ [b]).length := ⟨_, rfl⟩; rw [← hm14] at e14; subst e14; clear hm14; have HL3 := Aside0.mk hr3; have HX3 := Aside0.mk ((hg3.block X (blk_lt HXt.out) (fun e => (HSL.out.1 X e.symm).1 rfl)).trans HXt.out); have HT3 := Aside0.mk ((hg3.block T HXl.out (fun e => (HSL.out.1 T e.symm).2 rfl)).trans HTt.out); have hg4 : World.grownBy W5 w3 (Value.slice A7 (ls.length) c7).ownBlock := hg3; have HF3 := Aside0.mk (Kd.R_over HFt.out HSL.out (by decide) hg4); have HB3 := Aside0.mk (below_more HBt.out hb3); have x0 := blk_cell HX3.out 0; have x1 := blk_cell HX3.out 1; have xf0 := blk_frozen HX3.out 0; have xf1 := blk_frozen HX3.out 1; clear hr3 hb3 hg3 hg4))
    go_upto_region 22 with fail
    have hxz := blk_set HX3.out 0 (.slice A14 m14 c14)
    have hlz := Kd.R_far HL3.out (p := ⟨X, 0, none⟩) (fun k hk => hk.1) (.slice A14 m14 c14)
    have hfz := Kd.R_far (offT HF3.out HX3.out (by decide)) (p := ⟨X, 0, none⟩) (fun k hk => hk.2) (.slice A14 m14 c14)
    have htz := blk_far HT3.out (p := ⟨X, 0, none⟩) (Nat.ne_of_lt hX2) (.slice A14 m14 c14)
    have hbz := below_set (g := X) (j := 0) (v := .slice A14 m14 c14) HB3.out hwX
    obtain ⟨wz, hwz⟩ : ∃ wz, wz = w3.setCell ⟨X, 0, none⟩ (.slice A14 m14 c14) := ⟨_, rfl⟩
    rw [← hwz] at hxz hlz hfz htz hbz ⊢
    have HXZ : Aside0 (wz.heap[X]? = some (.cells #[.slice A14 m14 c14, .slice A8 f.length c8] 26 (0, 0))) := ⟨by simpa using hxz⟩
    have HLZ := Aside0.mk (Sl.of_Mx hlz hbz)
    have HFZ := Aside0.mk (Sl.of_R hfz)
    have HTZ := Aside0.mk htz
    have HBZ := Aside0.mk hbz
    clear x0 x1 xf0 xf1
    have x0 := blk_cell HXZ.out 0
    have x1 := blk_cell HXZ.out 1
    clear hwz hxz hlz hfz htz hbz HX3 HL3 HF3 HT3 HB3
    obtain ⟨J, hJe⟩ : ∃ J, J = ls ++ [b] := ⟨_, rfl⟩
    rw [← hJe] at HLZ
    have HJE := Aside0.mk (show inBase ls f ++ [b] = J by rw [hJe, show inBase ls f = ls from HIE.out])
    have hJl : J.length ≤ 281474976710656 := by rw [hJe, List.length_append, List.length_singleton]; omega
    clear hJe
    cases hok2 : spineOk J f
    ·have HJ := Aside0.mk (show inB ls f b = false from in_not (fun h => by have h5 := h.2.2.2.2; rw [HJE.out] at h5; rw [spineOk_iff.2 h5] at hok2; cases hok2))
     go_wp2_with (go_at_call 16; ((with_reducible refine (impl_SpineOk _ _ J f _ HLZ.out HFZ.out hJl).mono ?_); rintro e w' ⟨rfl, hbb⟩; rw [hok2]; replace HTZ := Aside0.mk (blk_below HTZ.out hbb); replace HBZ := Aside0.mk (bthen HBZ.out hbb); have z0 := blk_cell HTZ.out 0; have z1 := blk_cell HTZ.out 1; have zf0 := blk_frozen HTZ.out 0; have zf1 := blk_frozen HTZ.out 1; clear hbb))
     refine bodyPost_ret (results_ct rfl _ _ T 26 #[.slice none 0 0, .slice none 0 0] (0, 0) _ rfl (blk2 HTZ.out _ _) Tryz.underlying26 rfl (by kernel_rfl)) rfl ?_
     exact in_noI HJ.out (below_set (below_set HBZ.out hT2) hT2)
    ·have HJ := Aside0.mk (show inB ls f b = true from inB_iff.2 ⟨hso, hbo, HAll.out, HI3.out, by rw [HJE.out]; exact spineOk_iff.1 hok2⟩)
     have hJb : SpB J f := (spineOk_iff.1 hok2).b hb.f
     go_wp2_with (first
      | (go_at_call 16; ((with_reducible refine (impl_SpineOk _ _ J f _ HLZ.out HFZ.out hJl).mono ?_); rintro e w' ⟨rfl, hbb⟩; rw [hok2]; have HSP : Aside0 (SpS w' (.slice A14 m14 c14) (.slice A8 f.length c8) J f) := ⟨⟨HLZ.out.below hbb, HFZ.out.below hbb⟩⟩; replace HTZ := Aside0.mk (blk_below HTZ.out hbb); replace HBZ := Aside0.mk (bthen HBZ.out hbb); replace x0 := pw_cell_below hbb x0; replace x1 := pw_cell_below hbb x1; clear hbb))
      | (go_at_call 36; ((with_reducible refine (impl_spineCopy _ _ J f _ HSP.out hJb).mono ?_); rintro e wq ⟨ga, gb, rfl, hr, hbb⟩; obtain ⟨A19, c19, rfl⟩ := Kd.S_slice hr.1; obtain ⟨A20, c20, rfl⟩ := Kd.R_slice hr.2; have hTw := blk_lt HTZ.out; have HG := Aside0.mk hr; have hle := HBZ.out.size; replace HTZ := Aside0.mk (blk_below HTZ.out hbb); replace HBZ := Aside0.mk (bthen HBZ.out hbb); have z0 := blk_cell HTZ.out 0; have z1 := blk_cell HTZ.out 1; have zf0 := blk_frozen HTZ.out 0; have zf1 := blk_frozen HTZ.out 1; clear hbb hr)))
     refine bodyPost_ret (results_ct rfl _ _ T 26 #[.slice A19 J.length c19, .slice A20 f.length c20] (0, 0) _ rfl (blk2 HTZ.out _ _) Tryz.underlying26 rfl (by kernel_rfl)) rfl ?_
     refine in_yesI HJ.out ?_ (below_set (below_set HBZ.out hT2) hT2)
     rw [HJE.out]
     exact SpO.lower (SpO.far (SpO.far HG.out hTw 0 _) hTw 1 _) hle
   case pos =>
    obtain ⟨lk, hlk⟩ : ∃ lk : Int, lk = (leastL6 ls : Nat) := ⟨_, rfl⟩
    have CJ0 := fun W h => impl_SpineJoin (.slice A ls.length c) (.slice A2 f.length c2) ls f (leastL6 ls : Nat) W h hb
    rw [← hlk] at CJ0
    have HI1 := Aside0.mk (show joinB ls f lk = true → joinL ls f lk = inBase ls f ∧ joinF ls f lk = f from fun hj => by
     unfold joinL joinF inBase
     rw [if_pos hj, if_pos hj, if_pos h6, hlk, Int.toNat_natCast]
     exact ⟨rfl, rfl⟩)
    have HI4 := Aside0.mk (show joinB ls f lk = true → ls.length = 6 → joinB ls f (leastL6 ls : Nat) = true from fun h _ => by rw [← hlk]; exact h)
    have HI2 := Aside0.mk (show joinB ls f lk = false → inB ls f b = false from fun hj => in_not (fun h => by
     have := h.2.2.2.1 h6
     rw [← hlk, hj] at this
     cases this))
    have g6 : ((ls.length : Int) == 6) = true := by rw [h6]; rfl
    have HL6 := Aside0.mk (show (inBase ls f).length < 3518437208000 by
     unfold inBase
     rw [if_pos h6]
     have hlt := leastTo_lt ls (ls.length - 1)
     rw [joinAt_len (show leastL6 ls + 1 < ls.length by unfold leastL6; omega)]
     omega)
    generalize joinL ls f lk = Lj at CJ0 HI1
    generalize joinF ls f lk = Fj at CJ0 HI1
    generalize joinB ls f lk = Bj at CJ0 HI1 HI2 HI4
    have CJ := Aside0.mk CJ0
    have HLK := Aside0.mk hlk
    have HLEN := Aside0.mk (show ∀ j, (lay ls j).length ≤ 1048576 from fun j => by
     by_cases hj : j < ls.length
     ·exact hb.ls _ (lay_mem hj)
     ·unfold lay
      rw [List.getD_eq_getElem?_getD, List.getElem?_eq_none (by omega)]
      simp)
    have h62 : 2 ≤ ls.length := by omega
    have HBQ0 := Aside0.mk (Below.refl W5.heap.size W5)
    clear CJ0 h6 hlk
    go_wp2
    clear g6 k50
    go_loopw [9, 10] (fun q i wr => ∃ n : Nat, 1 ≤ n ∧ n + 1 ≤ ls.length ∧ i = .int .i64 n ∧ q = .int .i64 (leastTo ls n : Nat) ∧ Aside0 (Below W5.heap.size W5 wr)) (fun _ i _ => ls.length - (intOf i).toNat)
    case atStart => exact ⟨1, Nat.le_refl _, h62, rfl, rfl, HBQ0⟩
    case round =>
     clear HBQ0
     obtain ⟨n, hn1, hn2, rfl, rfl, HBQ⟩ := hrel
     by_cases hlt : n + 1 < ls.length
     ·have k0 : wr.cell? ⟨w.heap.size, 0, none⟩ = some (.slice A ls.length c) := blk_cell (blk_below HKr.out HBQ.out) 0
      have ew : wrap64 ((n : Int) + 1) = (n : Int) + 1 := wnext (m := ls.length) (Nat.lt_of_succ_lt hlt) (Nat.le_trans hfew (by decide))
      have i3 : (n : Int) + 1 < (ls.length : Int) := Int.ofNat_lt.2 hlt
      have hlq := leastTo_lt ls n
      have hq1 : leastTo ls n + 1 < ls.length := least_in hlt
      have q4 : leastTo ls n < ls.length := Nat.lt_of_succ_lt hq1
      have eq : wrap64 (((leastTo ls n : Nat) : Int) + 1) = ((leastTo ls n : Nat) : Int) + 1 := wnext (m := ls.length) q4 (Nat.le_trans hfew (by decide))
      have HM := Aside0.mk (meas_lt hlt)
      have HN1 := Aside0.mk (And.intro hlt (And.intro hn1 hq1))
      clear hm1 hlm hmb hfew hl6a hc hc2 hc3 hcb hbl h62 hbw hwX hX1 hX2 hT2 hK0 hne hlt hn1 hn2 hq1 hlq q4
      go_upto_region 15 with fail
      clear k0
      obtain ⟨hlt, hn1, hq1⟩ := HN1.out
      have HSC := Aside0.mk (leastTo_succ ls hn1)
      generalize leastTo ls n = q at *
      have i4 : n < ls.length := Nat.lt_of_succ_lt hlt
      have q4 : q < ls.length := Nat.lt_of_succ_lt hq1
      obtain ⟨ad, B0, d0, e8, L0, _⟩ := rdLay HRW.out i4
      cases e8
      obtain ⟨ad', B1, d1, e9, L1, _⟩ := rdLay HRW.out hlt
      cases e9
      obtain ⟨ad', B2, d2, e9, L2, _⟩ := rdLay HRW.out q4
      cases e9
      obtain ⟨ad', B3, d3, e9, L3, _⟩ := rdLay HRW.out hq1
      cases e9
      have hbq : Below w.heap.size w wr.drew := bthen (bthen HBr.out HBQ.out) (below_drew (Below.refl _ _))
      have x0 : wr.drew.cell? ⟨w.heap.size, 0, none⟩ = some (.slice (some ad) ls.length c) := blk_cell (blk_below HKr.out HBQ.out) 0
      have x1 : wr.drew.cell? (ad.add n) = some (.slice B0 (lay ls n).length d0) := pw_cell_below hbq L0
      have x2 : wr.drew.cell? ⟨ad.block, ad.off + (n + 1), none⟩ = some (.slice B1 (lay ls (n + 1)).length d1) := pw_cell_below hbq L1
      have x3 : wr.drew.cell? (ad.add q) = some (.slice B2 (lay ls q).length d2) := pw_cell_below hbq L2
      have x4 : wr.drew.cell? ⟨ad.block, ad.off + (q + 1), none⟩ = some (.slice B3 (lay ls (q + 1)).length d3) := pw_cell_below hbq L3
      have a1 := HLEN.out n
      have a2 := HLEN.out (n + 1)
      have a3 := HLEN.out q
      have a4 := HLEN.out (q + 1)
      obtain ⟨za, hza⟩ : ∃ z : Int, z = ((wl ls n : Nat) : Int) := ⟨_, rfl⟩
      obtain ⟨zb, hzb⟩ : ∃ z : Int, z = ((wl ls q : Nat) : Int) := ⟨_, rfl⟩
      have s1 : wrap64 (((lay ls n).length : Int) + ((lay ls (n + 1)).length : Int)) = za := by rw [hza]; exact wl_w a1 a2
      have s2 : wrap64 (((lay ls q).length : Int) + ((lay ls (q + 1)).length : Int)) = zb := by rw [hzb]; exact wl_w a3 a4
      have i0 : (0 : Int) ≤ (n : Int) := Int.natCast_nonneg n
      have i1 : (n : Int) < (ls.length : Int) := Int.ofNat_lt.2 i4
      have i2 : (0 : Int) ≤ (n : Int) + 1 := Int.natCast_nonneg (n + 1)
      have j0 : (0 : Int) ≤ (q : Int) := Int.natCast_nonneg q
      have j1 : (q : Int) < (ls.length : Int) := Int.ofNat_lt.2 q4
      have j2 : (0 : Int) ≤ (q : Int) + 1 := Int.natCast_nonneg (q + 1)
      have j3 : (q : Int) + 1 < (ls.length : Int) := Int.ofNat_lt.2 hq1
      obtain ⟨bb, hbb⟩ : ∃ bb, decide (za < zb) = bb := ⟨_, rfl⟩
      have HNX := Aside0.mk (least_if HSC.out hza hzb hbb)
      clear a1 a2 a3 a4 L0 L1 L2 L3 hbq hza hzb hlt hn1 hq1
      generalize lay ls n = l0 at *
      generalize lay ls (n + 1) = l1 at *
      generalize lay ls q = l2 at *
      generalize lay ls (q + 1) = l3 at *
      refine start_ (n := 29) (S := fun w' => w'.cell? ⟨w.heap.size, 0, none⟩ = some (.slice (some ad) ls.length c) ∧ w'.cell? (ad.add n) = some (.slice B0 l0.length d0) ∧ w'.cell? ⟨ad.block, ad.off + (n + 1), none⟩ = some (.slice B1 l1.length d1) ∧ w'.cell? (ad.add q) = some (.slice B2 l2.length d2) ∧ w'.cell? ⟨ad.block, ad.off + (q + 1), none⟩ = some (.slice B3 l3.length d3)) (ds := []) #[false, false, false, false, false, false, false, false, false, false, false, false, false, false, false, false, false, false, false, false, false, false, false, false, false, false, false, false, false] (by kernel_rfl) rfl rfl ⟨x0, x1, x2, x3, x4⟩ (fun hHeld => ?_)
      refine with_tabW tb_impl_SpineIn_15.tab tb_impl_SpineIn_15.bits (fun HT_ HW_ => ?_)
      refine pure_ (i := 0) (N := some 56) (v := ?_) (a' := ?_) #[true, false, false, false, false, false, false, false, false, false, false, false, false, false, false, false, false, false, false, false, false, false, false, false, false, false, false, false, false] rfl rfl (any_of HT_.out (by kernel_rfl)) (fun _ _ _ h => h) (Or.inl ⟨by rfl, ?_⟩) ?_ ?_
      rotate_left; (intro w'; go_simp; with_reducible rfl); rotate_left; (simp only [Act.put, setIfInBounds_toArray, set_cons_zero, set_cons_succ, i64_w]; rfl)
      refine pure_ (i := 2) (N := some 58) (v := ?_) (a' := ?_) #[true, false, true, false, false, false, false, false, false, false, false, false, false, false, false, false, false, false, false, false, false, false, false, false, false, false, false, false, false] rfl rfl (any_of HT_.out (by kernel_rfl)) (fun _ _ _ h => h) (Or.inl ⟨by rfl, ?_⟩) ?_ ?_
      rotate_left; (intro w'; go_simp; with_reducible rfl); rotate_left; (simp only [Act.put, setIfInBounds_toArray, set_cons_zero, set_cons_succ, i64_w]; rfl)
      refine pure_ (i := 6) (N := some 62) (v := ?_) (a' := ?_) #[true, false, true, false, false, false, true, false, false, false, false, false, false, false, false, false, false, false, false, false, false, false, false, false, false, false, false, false, false] rfl rfl (any_of HT_.out (by kernel_rfl)) (fun _ _ _ h => h) (Or.inl ⟨by rfl, ?_⟩) ?_ ?_
      rotate_left; (intro w'; go_simp; with_reducible rfl); rotate_left; (simp only [Act.put, setIfInBounds_toArray, set_cons_zero, set_cons_succ, i64_w]; rfl)
      refine pure_ (i := 8) (N := some 64) (v := ?_) (a' := ?_) #[true, false, true, false, false, false, true, false, true, false, false, false, false, false, false, false, false, false, false, false, false, false, false, false, false, false, false, false, false] rfl rfl (any_of HT_.out (by kernel_rfl)) (fun _ _ _ h => h) (Or.inl ⟨by rfl, ?_⟩) ?_ ?_
      rotate_left; (intro w'; go_simp; with_reducible rfl); rotate_left; (simp only [Act.put, setIfInBounds_toArray, set_cons_zero, set_cons_succ, i64_w]; rfl)
      refine pure_ (i := 9) (N := some 65) (v := ?_) (a' := ?_) #[true, false, true, false, false, false, true, false, true, true, false, false, false, false, false, false, false, false, false, false, false, false, false, false, false, false, false, false, false] rfl rfl (any_of HT_.out (by kernel_rfl)) (fun _ _ _ h => h) (Or.inl ⟨by rfl, ?_⟩) ?_ ?_
      rotate_left; (intro w'; go_simp; with_reducible rfl); rotate_left; (simp only [Act.put, setIfInBounds_toArray, set_cons_zero, set_cons_succ, i64_w]; rfl)
      refine pure_ (i := 14) (N := some 70) (v := ?_) (a' := ?_) #[true, false, true, false, false, false, true, false, true, true, false, false, false, false, true, false, false, false, false, false, false, false, false, false, false, false, false, false, false] rfl rfl (any_of HT_.out (by kernel_rfl)) (fun _ _ _ h => h) (Or.inl ⟨by rfl, ?_⟩) ?_ ?_
      rotate_left; (intro w'; go_simp; with_reducible rfl); rotate_left; (simp only [Act.put, setIfInBounds_toArray, set_cons_zero, set_cons_succ, i64_w]; rfl)
      refine pure_ (i := 16) (N := some 72) (v := ?_) (a' := ?_) #[true, false, true, false, false, false, true, false, true, true, false, false, false, false, true, false, true, false, false, false, false, false, false, false, false, false, false, false, false] rfl rfl (any_of HT_.out (by kernel_rfl)) (fun _ _ _ h => h) (Or.inl ⟨by rfl, ?_⟩) ?_ ?_
      rotate_left; (intro w'; go_simp; with_reducible rfl); rotate_left; (simp only [Act.put, setIfInBounds_toArray, set_cons_zero, set_cons_succ, i64_w]; rfl)
      refine pure_ (i := 20) (N := some 76) (v := ?_) (a' := ?_) #[true, false, true, false, false, false, true, false, true, true, false, false, false, false, true, false, true, false, false, false, true, false, false, false, false, false, false, false, false] rfl rfl (any_of HT_.out (by kernel_rfl)) (fun _ _ _ h => h) (Or.inl ⟨by rfl, ?_⟩) ?_ ?_
      rotate_left; (intro w'; go_simp; with_reducible rfl); rotate_left; (simp only [Act.put, setIfInBounds_toArray, set_cons_zero, set_cons_succ, i64_w]; rfl)
      refine pure_ (i := 22) (N := some 78) (v := ?_) (a' := ?_) #[true, false, true, false, false, false, true, false, true, true, false, false, false, false, true, false, true, false, false, false, true, false, true, false, false, false, false, false, false] rfl rfl (any_of HT_.out (by kernel_rfl)) (fun _ _ _ h => h) (Or.inl ⟨by rfl, ?_⟩) ?_ ?_
      rotate_left; (intro w'; go_simp; with_reducible rfl); rotate_left; (simp only [Act.put, setIfInBounds_toArray, set_cons_zero, set_cons_succ, i64_w]; rfl)
      refine pure_ (i := 23) (N := some 79) (v := ?_) (a' := ?_) #[true, false, true, false, false, false, true, false, true, true, false, false, false, false, true, false, true, false, false, false, true, false, true, true, false, false, false, false, false] rfl rfl (any_of HT_.out (by kernel_rfl)) (fun _ _ _ h => h) (Or.inl ⟨by rfl, ?_⟩) ?_ ?_
      rotate_left; (intro w'; go_simp; with_reducible rfl); rotate_left; (simp only [Act.put, setIfInBounds_toArray, set_cons_zero, set_cons_succ, i64_w]; rfl)
      refine take_ (i := 1) (N := some 57) (v := ?_) (a' := ?_) #[true, true, true, false, false, false, true, false, true, true, false, false, false, false, true, false, true, false, false, false, true, false, true, true, false, false, false, false, false] rfl rfl (take_ofW HT_.out HW_.out (by kernel_rfl)) (fun _ _ _ h => h) (Or.inl ⟨by rfl, ?_⟩) hHeld ?_ ?_
      rotate_left; (rintro w' ⟨s0, s1, s2, s3, s4⟩; go_simp; with_reducible rfl); rotate_left; (simp only [Act.put, setIfInBounds_toArray, set_cons_zero, set_cons_succ, i64_w]; rfl)
      refine pure_ (i := 3) (N := some 59) (v := ?_) (a' := ?_) #[true, true, true, true, false, false, true, false, true, true, false, false, false, false, true, false, true, false, false, false, true, false, true, true, false, false, false, false, false] rfl rfl (any_of HT_.out (by kernel_rfl)) (fun _ _ _ h => h) (Or.inl ⟨by rfl, ?_⟩) ?_ ?_
      rotate_left; (intro w'; go_simp; with_reducible rfl); rotate_left; (simp only [Act.put, setIfInBounds_toArray, set_cons_zero, set_cons_succ, i64_w]; rfl)
      refine take_ (i := 4) (N := some 60) (v := ?_) (a' := ?_) #[true, true, true, true, true, false, true, false, true, true, false, false, false, false, true, false, true, false, false, false, true, false, true, true, false, false, false, false, false] rfl rfl (take_ofW HT_.out HW_.out (by kernel_rfl)) (fun _ _ _ h => h) (Or.inl ⟨by rfl, ?_⟩) hHeld ?_ ?_
      rotate_left; (rintro w' ⟨s0, s1, s2, s3, s4⟩; go_simp; with_reducible rfl); rotate_left; (simp only [Act.put, setIfInBounds_toArray, set_cons_zero, set_cons_succ, i64_w]; rfl)
      refine pure_ (i := 5) (N := some 61) (v := ?_) (a' := ?_) #[true, true, true, true, true, true, true, false, true, true, false, false, false, false, true, false, true, false, false, false, true, false, true, true, false, false, false, false, false] rfl rfl (any_of HT_.out (by kernel_rfl)) (fun _ _ _ h => h) (Or.inl ⟨by rfl, ?_⟩) ?_ ?_
      rotate_left; (intro w'; go_simp; with_reducible rfl); rotate_left; (simp only [Act.put, setIfInBounds_toArray, set_cons_zero, set_cons_succ, i64_w]; rfl)
      refine take_ (i := 7) (N := some 63) (v := ?_) (a' := ?_) #[true, true, true, true, true, true, true, true, true, true, false, false, false, false, true, false, true, false, false, false, true, false, true, true, false, false, false, false, false] rfl rfl (take_ofW HT_.out HW_.out (by kernel_rfl)) (fun _ _ _ h => h) (Or.inl ⟨by rfl, ?_⟩) hHeld ?_ ?_
      rotate_left; (rintro w' ⟨s0, s1, s2, s3, s4⟩; go_simp; with_reducible rfl); rotate_left; (simp only [Act.put, setIfInBounds_toArray, set_cons_zero, set_cons_succ, i64_w]; rfl)
      refine pure_ (i := 10) (N := some 66) (v := ?_) (a' := ?_) #[true, true, true, true, true, true, true, true, true, true, true, false, false, false, true, false, true, false, false, false, true, false, true, true, false, false, false, false, false] rfl rfl (any_of HT_.out (by kernel_rfl)) (fun _ _ _ h => h) (Or.inl ⟨by rfl, ?_⟩) ?_ ?_
      rotate_left; (intro w'; go_simp; with_reducible rfl); rotate_left; (simp only [Act.put, setIfInBounds_toArray, set_cons_zero, set_cons_succ, i64_w]; rfl)
      refine take_ (i := 11) (N := some 67) (v := ?_) (a' := ?_) #[true, true, true, true, true, true, true, true, true, true, true, true, false, false, true, false, true, false, false, false, true, false, true, true, false, false, false, false, false] rfl rfl (take_ofW HT_.out HW_.out (by kernel_rfl)) (fun _ _ _ h => h) (Or.inl ⟨by rfl, ?_⟩) hHeld ?_ ?_
      rotate_left; (rintro w' ⟨s0, s1, s2, s3, s4⟩; go_simp; with_reducible rfl); rotate_left; (simp only [Act.put, setIfInBounds_toArray, set_cons_zero, set_cons_succ, i64_w]; rfl)
      refine pure_ (i := 12) (N := some 68) (v := ?_) (a' := ?_) #[true, true, true, true, true, true, true, true, true, true, true, true, true, false, true, false, true, false, false, false, true, false, true, true, false, false, false, false, false] rfl rfl (any_of HT_.out (by kernel_rfl)) (fun _ _ _ h => h) (Or.inl ⟨by rfl, ?_⟩) ?_ ?_
      rotate_left; (intro w'; go_simp; with_reducible rfl); rotate_left; (simp only [Act.put, setIfInBounds_toArray, set_cons_zero, set_cons_succ, i64_w]; rfl)
      refine pure_ (i := 13) (N := some 69) (v := ?_) (a' := ?_) #[true, true, true, true, true, true, true, true, true, true, true, true, true, true, true, false, true, false, false, false, true, false, true, true, false, false, false, false, false] rfl rfl (any_of HT_.out (by kernel_rfl)) (fun _ _ _ h => h) (Or.inl ⟨by rfl, ?_⟩) ?_ ?_
      rotate_left; (intro w'; go_simp; with_reducible rfl); rotate_left; (simp only [Act.put, setIfInBounds_toArray, set_cons_zero, set_cons_succ, i64_w]; rfl)
      refine take_ (i := 15) (N := some 71) (v := ?_) (a' := ?_) #[true, true, true, true, true, true, true, true, true, true, true, true, true, true, true, true, true, false, false, false, true, false, true, true, false, false, false, false, false] rfl rfl (take_ofW HT_.out HW_.out (by kernel_rfl)) (fun _ _ _ h => h) (Or.inl ⟨by rfl, ?_⟩) hHeld ?_ ?_
      rotate_left; (rintro w' ⟨s0, s1, s2, s3, s4⟩; go_simp; with_reducible rfl); rotate_left; (simp only [Act.put, setIfInBounds_toArray, set_cons_zero, set_cons_succ, i64_w]; rfl)
      refine pure_ (i := 17) (N := some 73) (v := ?_) (a' := ?_) #[true, true, true, true, true, true, true, true, true, true, true, true, true, true, true, true, true, true, false, false, true, false, true, true, false, false, false, false, false] rfl rfl (any_of HT_.out (by kernel_rfl)) (fun _ _ _ h => h) (Or.inl ⟨by rfl, ?_⟩) ?_ ?_
      rotate_left; (intro w'; go_simp; with_reducible rfl); rotate_left; (simp only [Act.put, setIfInBounds_toArray, set_cons_zero, set_cons_succ, i64_w]; rfl)
      refine take_ (i := 18) (N := some 74) (v := ?_) (a' := ?_) #[true, true, true, true, true, true, true, true, true, true, true, true, true, true, true, true, true, true, true, false, true, false, true, true, false, false, false, false, false] rfl rfl (take_ofW HT_.out HW_.out (by kernel_rfl)) (fun _ _ _ h => h) (Or.inl ⟨by rfl, ?_⟩) hHeld ?_ ?_
      rotate_left; (rintro w' ⟨s0, s1, s2, s3, s4⟩; go_simp; with_reducible rfl); rotate_left; (simp only [Act.put, setIfInBounds_toArray, set_cons_zero, set_cons_succ, i64_w]; rfl)
      refine pure_ (i := 19) (N := some 75) (v := ?_) (a' := ?_) #[true, true, true, true, true, true, true, true, true, true, true, true, true, true, true, true, true, true, true, true, true, false, true, true, false, false, false, false, false] rfl rfl (any_of HT_.out (by kernel_rfl)) (fun _ _ _ h => h) (Or.inl ⟨by rfl, ?_⟩) ?_ ?_
      rotate_left; (intro w'; go_simp; with_reducible rfl); rotate_left; (simp only [Act.put, setIfInBounds_toArray, set_cons_zero, set_cons_succ, i64_w]; rfl)
      refine take_ (i := 21) (N := some 77) (v := ?_) (a' := ?_) #[true, true, true, true, true, true, true, true, true, true, true, true, true, true, true, true, true, true, true, true, true, true, true, true, false, false, false, false, false] rfl rfl (take_ofW HT_.out HW_.out (by kernel_rfl)) (fun _ _ _ h => h) (Or.inl ⟨by rfl, ?_⟩) hHeld ?_ ?_
      rotate_left; (rintro w' ⟨s0, s1, s2, s3, s4⟩; go_simp; with_reducible rfl); rotate_left; (simp only [Act.put, setIfInBounds_toArray, set_cons_zero, set_cons_succ, i64_w]; rfl)
      refine pure_ (i := 24) (N := some 80) (v := ?_) (a' := ?_) #[true, true, true, true, true, true, true, true, true, true, true, true, true, true, true, true, true, true, true, true, true, true, true, true, true, false, false, false, false] rfl rfl (any_of HT_.out (by kernel_rfl)) (fun _ _ _ h => h) (Or.inl ⟨by rfl, ?_⟩) ?_ ?_
      rotate_left; (intro w'; go_simp; with_reducible rfl); rotate_left; (simp only [Act.put, setIfInBounds_toArray, set_cons_zero, set_cons_succ, i64_w]; rfl)
      refine take_ (i := 25) (N := some 81) (v := ?_) (a' := ?_) #[true, true, true, true, true, true, true, true, true, true, true, true, true, true, true, true, true, true, true, true, true, true, true, true, true, true, false, false, false] rfl rfl (take_ofW HT_.out HW_.out (by kernel_rfl)) (fun _ _ _ h => h) (Or.inl ⟨by rfl, ?_⟩) hHeld ?_ ?_
      rotate_left; (rintro w' ⟨s0, s1, s2, s3, s4⟩; go_simp; with_reducible rfl); rotate_left; (simp only [Act.put, setIfInBounds_toArray, set_cons_zero, set_cons_succ, i64_w]; rfl)
      refine pure_ (i := 26) (N := some 82) (v := ?_) (a' := ?_) #[true, true, true, true, true, true, true, true, true, true, true, true, true, true, true, true, true, true, true, true, true, true, true, true, true, true, true, false, false] rfl rfl (any_of HT_.out (by kernel_rfl)) (fun _ _ _ h => h) (Or.inl ⟨by rfl, ?_⟩) ?_ ?_
      rotate_left; (intro w'; go_simp; with_reducible rfl); rotate_left; (simp only [Act.put, setIfInBounds_toArray, set_cons_zero, set_cons_succ, i64_w]; rfl)
      refine pure_ (i := 27) (N := some 83) (v := ?_) (a' := ?_) #[true, true, true, true, true, true, true, true, true, true, true, true, true, true, true, true, true, true, true, true, true, true, true, true, true, true, true, true, false] rfl rfl (any_of HT_.out (by kernel_rfl)) (fun _ _ _ h => h) (Or.inl ⟨by rfl, ?_⟩) ?_ ?_
      rotate_left; (intro w'; go_simp; with_reducible rfl); rotate_left; (simp only [Act.put, setIfInBounds_toArray, set_cons_zero, set_cons_succ, i64_w]; rfl)
      refine pure_ (i := 28) (N := some 84) (v := ?_) (a' := ?_) #[true, true, true, true, true, true, true, true, true, true, true, true, true, true, true, true, true, true, true, true, true, true, true, true, true, true, true, true, true] rfl rfl (any_of HT_.out (by kernel_rfl)) (fun _ _ _ h => h) (Or.inl ⟨by rfl, ?_⟩) ?_ ?_
      rotate_left; (intro w'; go_simp; with_reducible rfl); rotate_left; (simp only [Act.put, setIfInBounds_toArray, set_cons_zero, set_cons_succ, i64_w]; rfl)
      refine done_ (done_of HT_.out (by kernel_rfl)) ?_
      have HB5 := Aside0.mk (below_drew HBQ.out)
      clear x0 x1 x2 x3 x4 hHeld
      try rw [hbb]
      cases bb
      all_goals
       go_wp2
       go_roundw
       case rel => exact ⟨n + 1, Nat.le_add_left 1 n, HN1.out.1, by go_num, by rw [HNX.out]; simp, HB5⟩
       case measure => first | exact HM.out | (rw [ew]; exact HM.out)
     ·have HLQ := Aside0.mk (show ((leastTo ls n : Nat) : Int) = lk by rw [HLK.out, show n = ls.length - 1 by omega]; rfl)
      rw [HLQ.out]
      have n13 : wrap64 ((n : Int) + 1) = (n : Int) + 1 := wnext (m := ls.length) (by omega) (Nat.le_trans hfew (by decide))
      have i13 : decide ((n : Int) + 1 < (ls.length : Int)) = false := decide_eq_false (by omega)
      have i14 : ¬ ((n : Int) + 1 < (ls.length : Int)) := by omega
      have HTq := Aside0.mk (blk_below HTr.out HBQ.out)
      have HKq := Aside0.mk (blk_below HKr.out HBQ.out)
      have HSq := Aside0.mk (HSr.out.below HBQ.out)
      have HBq := Aside0.mk (bthen HBr.out HBQ.out)
      have HXq := Aside0.mk (blk_below HXB.out HBQ.out)
      have HN := Aside0.mk (And.intro hm1 (And.intro hlm (And.intro hfew (And.intro hbl (And.intro hcb (And.intro hwX (And.intro hX2 hT2)))))))
      have k0 : wr.cell? ⟨w.heap.size, 0, none⟩ = some (.slice A ls.length c) := blk_cell HKq.out 0
      have k1 : wr.cell? ⟨w.heap.size, 1, none⟩ = some (.slice A2 f.length c2) := blk_cell HKq.out 1
      clear hm1 hlm hmb hfew hl6a hc hc2 hc3 hcb hbl h62 hbw hwX hX1 hX2 hT2 hK0 hne hlt hn1 hn2
      go_upto_region 18 with (go_at_call 18; ((with_reducible refine (CJ.out _ HSq.out).mono ?_); rintro e wj ⟨xa, xb, rfl, hr, hbb⟩; obtain ⟨A9, c9, rfl⟩ := Kd.S_slice hr.1; obtain ⟨A10, c10, rfl⟩ := Kd.R_slice hr.2; have HJo := Aside0.mk (SpO.lower hr HBq.out.size); replace HTq := Aside0.mk (blk_below HTq.out hbb); replace HXq := Aside0.mk (blk_below HXq.out hbb); replace HBq := Aside0.mk (bthen HBq.out hbb); clear hr hbb k0 k1))
      refine name_world fun W6 hW6 => ?_
      have hb6 : Below wj.heap.size wj W6 := hW6 ▸ below_alloc (Below.refl _ _) _
      obtain ⟨Y, hY⟩ : ∃ Y, Y = wj.heap.size := ⟨_, rfl⟩
      have HYB := Aside0.mk (show W6.heap[Y]? = some (.cells #[.slice A9 Lj.length c9, .slice A10 Fj.length c10] 26 (0, 0)) by rw [hW6, hY]; first | exact blk_new _ _ | simp)
      try rw [← hY]
      replace HTq := Aside0.mk (blk_below HTq.out hb6)
      replace HXq := Aside0.mk (blk_below HXq.out hb6)
      replace HBq := Aside0.mk (bthen HBq.out hb6)
      replace HJo := Aside0.mk (SpO.below HJo.out hb6)
      clear hW6 hY hb6 n13 i13 i14 HBQ
      obtain ⟨hm1, hlm, hfew, hbl, hcb, hwX, hX2, hT2⟩ := HN.out
      cases Bj
      ·have HJ := Aside0.mk (HI2.out rfl)
       have z0 := blk_cell HTq.out 0
       have z1 := blk_cell HTq.out 1
       have zf0 := blk_frozen HTq.out 0
       have zf1 := blk_frozen HTq.out 1
       go_wp2
       refine bodyPost_ret (results_ct rfl _ _ T 26 #[.slice none 0 0, .slice none 0 0] (0, 0) _ rfl (blk2 HTq.out _ _) Tryz.underlying26 rfl (by kernel_rfl)) rfl ?_
       exact in_noI HJ.out (below_set (below_set HBq.out hT2) hT2)
      ·obtain ⟨e1, e2⟩ := HI1.out rfl
       subst e1
       have e3 := e2.symm
       subst e3
       have y0 := blk_cell HYB.out 0
       have y1 := blk_cell HYB.out 1
       have z0 := blk_cell HXq.out 0
       have z1 := blk_cell HXq.out 1
       have zf0 := blk_frozen HXq.out 0
       have zf1 := blk_frozen HXq.out 1
       go_upto_region 21 with fail
       have hs0 := mx_R (W0 := w) (Kd.S_mono (Kd.S_types (Kd.S_types HJo.out.1 HXq.out (by decide)) HTq.out (by decide)) (ok' := fun q => q ≠ X ∧ q ≠ T) (fun q hq => ⟨hq.1.2, hq.2⟩))
       have hxt := blk2 HXq.out (.slice A9 (inBase ls f).length c9) (.slice A10 f.length c10)
       have hst1 := Kd.R_far (Kd.R_far hs0 (p := ⟨X, 0, none⟩) (fun k hk => hk.1) (.slice A9 (inBase ls f).length c9)) (p := ⟨X, 1, none⟩) (fun k hk => hk.1) (.slice A10 f.length c10)
       have hst2 := Kd.R_far (Kd.R_far (offT HJo.out.2 HXq.out (by decide)) (p := ⟨X, 0, none⟩) (fun k hk => hk.2) (.slice A9 (inBase ls f).length c9)) (p := ⟨X, 1, none⟩) (fun k hk => hk.2) (.slice A10 f.length c10)
       have htt := blk_far (blk_far HTq.out (p := ⟨X, 0, none⟩) (Nat.ne_of_lt hX2) (.slice A9 (inBase ls f).length c9)) (p := ⟨X, 1, none⟩) (Nat.ne_of_lt hX2) (.slice A10 f.length c10)
       have hbt := below_set (g := X) (j := 1) (v := .slice A10 f.length c10) (below_set (g := X) (j := 0) (v := .slice A9 (inBase ls f).length c9) HBq.out hwX) hwX
       obtain ⟨wt, hwt⟩ : ∃ wt, wt = (W6.setCell ⟨X, 0, none⟩ (.slice A9 (inBase ls f).length c9)).setCell ⟨X, 1, none⟩ (.slice A10 f.length c10) := ⟨_, rfl⟩
       rw [← hwt] at hxt hst1 hst2 htt hbt ⊢
       have HXt := Aside0.mk hxt
       have HSL := Aside0.mk hst1
       have HFt := Aside0.mk hst2
       have HTt := Aside0.mk htt
       have HBt := Aside0.mk hbt
       have HIE := Aside0.mk (show SameL (inBase ls f) (inBase ls f) from rfl)
       have HI3 := Aside0.mk (HI4.out rfl)
       have hl6 : (inBase ls f).length < 3518437208000 := HL6.out
       clear hwt hs0 hxt hst1 hst2 htt hbt y0 y1 z0 z1 zf0 zf1 HXq HBq HTq HYB HJo
       have HXl := Aside0.mk (blk_lt HTt.out)
       have x0 := blk_cell HXt.out 0
       have HMB := Aside0.mk (show (kMx w).M wt w.heap.size (fun _ => False) b [.slice A3 b.length c3] from Or.inr ⟨A3, c3, rfl, hcb, HCB.out⟩)
       go_wp2_with (at_builtin; (refine appMx (W0 := w) (W := wt) (base := w.heap.size) (xs := (inBase ls f)) (y := b) (u := .slice A3 b.length c3) (ok := fun q => q ≠ X ∧ q ≠ T) rfl rfl rfl HSL.out HMB.out (fun q hq => ⟨Ne.symm (Nat.ne_of_lt (Nat.lt_of_lt_of_le (blk_lt HXt.out) hq)), Ne.symm (Nat.ne_of_lt (Nat.lt_of_lt_of_le HXl.out hq))⟩) HBt.out.size hl6 ?_; intro v14 w3 hr3 hb3 hg3; obtain ⟨A14, c14, e14⟩ := Kd.R_slice hr3; obtain ⟨m14, hm14⟩ : ∃ m, m = ((inBase ls f) ++ [b]).length := ⟨_, rfl⟩; rw [← hm14] at e14; subst e14; clear hm14; have HL3 := Aside0.mk hr3; have HX3 := Aside0.mk ((hg3.block X (blk_lt HXt.out) (fun e => (HSL.out.1 X e.symm).1 rfl)).trans HXt.out); have HT3 := Aside0.mk ((hg3.block T HXl.out (fun e => (HSL.out.1 T e.symm).2 rfl)).trans HTt.out); have hg4 : World.grownBy wt w3 (Value.slice A9 ((inBase ls f).length) c9).ownBlock := hg3; have HF3 := Aside0.mk (Kd.R_over HFt.out HSL.out (by decide) hg4); have HB3 := Aside0.mk (below_more HBt.out hb3); have x0 := blk_cell HX3.out 0; have x1 := blk_cell HX3.out 1; have xf0 := blk_frozen HX3.out 0; have xf1 := blk_frozen HX3.out 1; clear hr3 hb3 hg3 hg4))
       go_upto_region 22 with fail
       have hxz := blk_set HX3.out 0 (.slice A14 m14 c14)
       have hlz := Kd.R_far HL3.out (p := ⟨X, 0, none⟩) (fun k hk => hk.1) (.slice A14 m14 c14)
       have hfz := Kd.R_far (offT HF3.out HX3.out (by decide)) (p := ⟨X, 0, none⟩) (fun k hk => hk.2) (.slice A14 m14 c14)
       have htz := blk_far HT3.out (p := ⟨X, 0, none⟩) (Nat.ne_of_lt hX2) (.slice A14 m14 c14)
       have hbz := below_set (g := X) (j := 0) (v := .slice A14 m14 c14) HB3.out hwX
       obtain ⟨wz, hwz⟩ : ∃ wz, wz = w3.setCell ⟨X, 0, none⟩ (.slice A14 m14 c14) := ⟨_, rfl⟩
       rw [← hwz] at hxz hlz hfz htz hbz ⊢
       have HXZ : Aside0 (wz.heap[X]? = some (.cells #[.slice A14 m14 c14, .slice A10 f.length c10] 26 (0, 0))) := ⟨by simpa using hxz⟩
       have HLZ := Aside0.mk (Sl.of_Mx hlz hbz)
       have HFZ := Aside0.mk (Sl.of_R hfz)
       have HTZ := Aside0.mk htz
       have HBZ := Aside0.mk hbz
       clear x0 x1 xf0 xf1
       have x0 := blk_cell HXZ.out 0
       have x1 := blk_cell HXZ.out 1
       clear hwz hxz hlz hfz htz hbz HX3 HL3 HF3 HT3 HB3
       obtain ⟨J, hJe⟩ : ∃ J, J = (inBase ls f) ++ [b] := ⟨_, rfl⟩
       rw [← hJe] at HLZ
       have HJE := Aside0.mk (show inBase ls f ++ [b] = J by rw [hJe, show inBase ls f = (inBase ls f) from HIE.out])
       have hJl : J.length ≤ 281474976710656 := by rw [hJe, List.length_append, List.length_singleton]; omega
       clear hJe
       cases hok2 : spineOk J f
       ·have HJ := Aside0.mk (show inB ls f b = false from in_not (fun h => by have h5 := h.2.2.2.2; rw [HJE.out] at h5; rw [spineOk_iff.2 h5] at hok2; cases hok2))
        go_wp2_with (go_at_call 16; ((with_reducible refine (impl_SpineOk _ _ J f _ HLZ.out HFZ.out hJl).mono ?_); rintro e w' ⟨rfl, hbb⟩; rw [hok2]; replace HTZ := Aside0.mk (blk_below HTZ.out hbb); replace HBZ := Aside0.mk (bthen HBZ.out hbb); have z0 := blk_cell HTZ.out 0; have z1 := blk_cell HTZ.out 1; have zf0 := blk_frozen HTZ.out 0; have zf1 := blk_frozen HTZ.out 1; clear hbb))
        refine bodyPost_ret (results_ct rfl _ _ T 26 #[.slice none 0 0, .slice none 0 0] (0, 0) _ rfl (blk2 HTZ.out _ _) Tryz.underlying26 rfl (by kernel_rfl)) rfl ?_
        exact in_noI HJ.out (below_set (below_set HBZ.out hT2) hT2)
       ·have HJ := Aside0.mk (show inB ls f b = true from inB_iff.2 ⟨hso, hbo, HAll.out, HI3.out, by rw [HJE.out]; exact spineOk_iff.1 hok2⟩)
        have hJb : SpB J f := (spineOk_iff.1 hok2).b hb.f
        go_wp2_with (first
         | (go_at_call 16; ((with_reducible refine (impl_SpineOk _ _ J f _ HLZ.out HFZ.out hJl).mono ?_); rintro e w' ⟨rfl, hbb⟩; rw [hok2]; have HSP : Aside0 (SpS w' (.slice A14 m14 c14) (.slice A10 f.length c10) J f) := ⟨⟨HLZ.out.below hbb, HFZ.out.below hbb⟩⟩; replace HTZ := Aside0.mk (blk_below HTZ.out hbb); replace HBZ := Aside0.mk (bthen HBZ.out hbb); replace x0 := pw_cell_below hbb x0; replace x1 := pw_cell_below hbb x1; clear hbb))
         | (go_at_call 36; ((with_reducible refine (impl_spineCopy _ _ J f _ HSP.out hJb).mono ?_); rintro e wq ⟨ga, gb, rfl, hr, hbb⟩; obtain ⟨A19, c19, rfl⟩ := Kd.S_slice hr.1; obtain ⟨A20, c20, rfl⟩ := Kd.R_slice hr.2; have hTw := blk_lt HTZ.out; have HG := Aside0.mk hr; have hle := HBZ.out.size; replace HTZ := Aside0.mk (blk_below HTZ.out hbb); replace HBZ := Aside0.mk (bthen HBZ.out hbb); have z0 := blk_cell HTZ.out 0; have z1 := blk_cell HTZ.out 1; have zf0 := blk_frozen HTZ.out 0; have zf1 := blk_frozen HTZ.out 1; clear hbb hr)))
        refine bodyPost_ret (results_ct rfl _ _ T 26 #[.slice A19 J.length c19, .slice A20 f.length c20] (0, 0) _ rfl (blk2 HTZ.out _ _) Tryz.underlying26 rfl (by kernel_rfl)) rfl ?_
        refine in_yesI HJ.out ?_ (below_set (below_set HBZ.out hT2) hT2)
        rw [HJE.out]
        exact SpO.lower (SpO.far (SpO.far HG.out hTw 0 _) hTw 1 _) hle
end Go.Proofs.YtkdendlgaaimbaaGreat.X
