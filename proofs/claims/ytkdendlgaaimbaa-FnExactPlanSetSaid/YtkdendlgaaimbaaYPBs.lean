/- Conditions: none. -/
import Derived.Test.YtkdendlgaaimbaaProg
import Derived.Test.YtkdendlgaaimbaaVAWords
import Derived.Test.YtkdendlgaaimbaaVAApart
import Derived.StillTailTactics
import Derived.Test.YtkdendlgaaimbaaYCPl
import Derived.Test.YtkdendlgaaimbaaYPPl
import Derived.Lib.Hide
import Derived.Laws.BitsLemmas
import Derived.Laws.CopyRow
import Derived.Laws.CopyOwn
import Derived.Test.YtkdendlgaaimbaaVAKept
import Derived.Lib.SmallJoins
import Derived.Test.YtkdendlgaaimbaaYCBs
namespace Go.Proofs.Ytkdendlgaaimbaa.X
open Go.RowKit Go.Proofs.YtkdendlgaaimbaaW.PrintWords
instance (w : World) : Nonempty (Ext w) := ⟨Ext.drew1 w⟩
theorem ret_bool {a b : Bool} (h : a = b) : Ending.returned (.bool a) = .returned (.bool b) := by rw [h]
theorem vbool {a b : Bool} (h : a = true ↔ b = true) : Value.bool a = .bool b := by rw [Bool.eq_iff_iff.2 h]
theorem drop_cons {α : Type} {l : List α} {k : Nat} {x : α} (hx : l[k]? = some x) : l.drop k = x :: l.drop (k + 1) := by
 obtain ⟨hlt, rfl⟩ := List.getElem?_eq_some_iff.1 hx
 exact List.drop_eq_getElem_cons hlt
def kI : Kd Int := Kd.int .i64
section
variable {α : Type} {d : Kd α} {e : Nat} {w w1 wr : World} {base : Nat} {ok : Nat → Prop} {v : Value} {xs : List α} {A : Option Addr} {c : Nat}
theorem Sl.of_R (h : d.R e w base ok v xs) : Sl d w v xs := by obtain ⟨A, c, h1, h2, h3⟩ := Kd.R_reads h; exact ⟨A, c, h1, h2, h3⟩
theorem Sl.below (h : Sl d w v xs) (hb : Below w.heap.size w w1) : Sl d w1 v xs := by obtain ⟨A, c, h1, h2, h3⟩ := h; exact ⟨A, c, h1, h2, Kd.C_below h3 hb⟩
theorem Sl.mk' (h : d.C w A xs.length xs) (hc : xs.length ≤ c) : Sl d w (.slice A xs.length c) xs := ⟨A, c, rfl, hc, h⟩
theorem Sl.max (h : Sl d w v xs) : xs.length ≤ 9223372036854775807 := by obtain ⟨A, c, h1, h2, h3⟩ := h; exact h3.2.1
theorem Sl.nil (d : Kd α) (w : World) : Sl d w (.slice none 0 0) [] := ⟨none, 0, rfl, Nat.le_refl _, Kd.C_nil d w⟩
end
section
variable {w wr : World} {A : Option Addr} {k : Nat}
theorem rdSl {α : Type} {d : Kd α} {e : Nat} {xs : List (List α)} (h : (Kd.slice e d).C w A xs.length xs) (hb : Below w.heap.size w wr) (hk : k < xs.length) : ∃ ad x A1 c1, A = some ad ∧ Aside0 (xs[k]? = some x) ∧ wr.cell? (ad.add k) = some (.slice A1 x.length c1) ∧ Aside0 (Sl d wr (.slice A1 x.length c1) x) := by
 obtain ⟨ad, x, cs, e, hx, ⟨A1, c1, rfl, h2, h3⟩, hc⟩ := cget h hb hk
 have h0 := hc 0 _ rfl
 rw [Nat.add_zero, show (Kd.slice _ d).sz = 1 from rfl, Nat.mul_one] at h0
 exact ⟨ad, x, A1, c1, e, ⟨hx⟩, h0, ⟨⟨A1, c1, rfl, h2, h3⟩⟩⟩
end
section
variable {w wr : World} {A : Option Addr} {k : Nat}
theorem rdI {xs : List Int} (h : kI.C w A xs.length xs) (hb : Below w.heap.size w wr) (hk : k < xs.length) : ∃ ad x, A = some ad ∧ Aside0 (xs[k]? = some x) ∧ wr.cell? (ad.add k) = some (.int .i64 x) := by
 obtain ⟨ad, x, cs, e, hx, hK, hc⟩ := cget h hb hk
 obtain rfl : cs = [.int .i64 x] := hK
 have h0 := hc 0 _ rfl
 rw [Nat.add_zero, show kI.sz = 1 from rfl, Nat.mul_one] at h0
 exact ⟨ad, x, e, ⟨hx⟩, h0⟩
end
theorem litI (W : World) (xs : List Int) (t : TypeId) (hx : xs.length ≤ 1000) : kI.C (W.alloc (.cells (xs.map (Value.int .i64)).toArray t)) (some ⟨W.heap.size, 0, none⟩) xs.length xs := by
 refine ⟨rfl, by omega, fun _ => ⟨_, rfl, fun j p hj => ⟨[.int .i64 p], rfl, rfl, fun i u hu => ?_⟩⟩⟩
 have hi : i = 0 := by have := (List.getElem?_eq_some_iff.1 hu).1; simp at this; omega
 subst hi
 have : u = .int .i64 p := by simpa using hu.symm
 subst this
 rw [Nat.add_zero, show kI.sz = 1 from rfl, Nat.mul_one, add_plain, blk_cell (blk_new W _)]
 simp [hj]
section
variable {P : Program} {ops : Array Oper} {rest : List Oper} {o : Oper} {a : Act} {Q : Exit → Act → World → Prop} {α : Type}
theorem storeEl (d : Kd α) {w0 W : World} {base : Nat} (hN : o.dst = none) (hgd : o.guard = none) {t : TypeId} {p x : Operand} (ho : o.op = .store t p x) {e g n cap o' : Nat} (k : Nat) {xs : List α} (x' : α) (cs : List Value) {ok okp : Nat → Prop}
  (haddr : a.eval p = .pointer (some ⟨g, o', none⟩)) (hoff : o' = k * d.sz) (hu : (a.eval x).cells.toList = cs) (ht : (P.info? t).map (·.size) = some d.sz)
  (HO : d.R e W base ok (.slice (some ⟨g, 0, none⟩) n cap) xs) (hi : k < n) (hM : d.M W base okp x' cs) (hokp : ∀ q, okp q → ok q ∧ q ≠ g) (HB : Below base w0 W)
  (h : ∀ w1, d.R e w1 base ok (.slice (some ⟨g, 0, none⟩) n cap) (xs.set k x') → Below base w0 w1 → W.grownBy w1 (some g) → wpList P ops Q rest a w1) : wpList P ops Q (o :: rest) a W := by
 have hl := d.K_len (d.K_of_M hM)
 obtain ⟨c, hcl, _, hcc, _⟩ := Kd.R_elem HO x' (k : Int) (by omega) (by omega)
 simp only [Int.toNat_natCast] at hcc
 refine Kd.R_store d base hN hgd t p x ho e (k : Int) 0 xs x' _ cs c ok okp haddr (by simpa using hoff) rfl hu (by rw [hl]; exact ht) (d.K_one (d.K_of_M hM)) HO (by omega) (by omega) hcl (by simpa using hcc) (by omega) ?_ hokp HB (by simpa using h)
 rw [List.take_zero, List.nil_append, Nat.zero_add, hl, List.drop_of_length_le (by omega), List.append_nil]
 exact hM
end
section
variable {P : Program} {ops : Array Oper} {rest : List Oper} {o : Oper} {a : Act} {Q : Exit → Act → World → Prop} {α : Type}
theorem storeElS (d : Kd α) {w0 W : World} {base N : Nat} (hN : o.dst = none) (hgd : o.guard = none) {t : TypeId} {p x : Operand} (ho : o.op = .store t p x) {e g n cap o' : Nat} (k : Nat) {xs : List α} (x' : α) (cs : List Value)
  (haddr : a.eval p = .pointer (some ⟨g, o', none⟩)) (hoff : o' = k * d.sz) (hu : (a.eval x).cells.toList = cs) (ht : (P.info? t).map (·.size) = some d.sz)
  (HO : Kd.S d e W base (fun k => k < N) (.slice (some ⟨g, 0, none⟩) n cap) xs) (hn : xs.length = n) (hi : k < n) (hM : d.M W base (fun k => N ≤ k) x' cs) (HB : Below base w0 W)
  (h : ∀ w1, Kd.S d e w1 base okT (.slice (some ⟨g, 0, none⟩) n cap) (xs.set k x') → Below base w0 w1 → W.grownBy w1 (some g) → wpList P ops Q rest a w1) : wpList P ops Q (o :: rest) a W := by
 obtain ⟨f, hf, HT⟩ := Kd.S_tag HO k (fun k => N ≤ k) (fun _ h1 h2 => by omega)
 have hg : g < N := HT.1 g rfl
 refine storeEl (Kd.tag f d) hN hgd ho k (x', k) cs (okp := fun q => N ≤ q) haddr hoff hu ht (Kd.R_mono HT (fun _ _ => trivial)) hi (d.M_mono (fun q hq => ⟨hq, hf q hq⟩) hM) (fun q hq => ⟨trivial, by omega⟩) HB (fun w1 h1 hb hgr => h w1 ⟨f, ?_⟩ hb hgr)
 have e : xs.zipIdx.set k (x', k) = (xs.set k x').zipIdx := by
  apply List.ext_getElem?
  intro i
  rw [List.getElem?_zipIdx, List.getElem?_set, List.getElem?_set, List.length_zipIdx, List.getElem?_zipIdx]
  by_cases hk : k = i
  ·subst hk
   rw [if_pos rfl, if_pos rfl, if_pos (by omega), if_pos (by omega)]
   simp
  ·rw [if_neg hk, if_neg hk]
 rw [e] at h1
 exact h1
end
theorem formR {α : Type} {d : Kd α} {e : Nat} {w : World} {base : Nat} {ok : Nat → Prop} {v : Value} {xs : List α} {n : Nat} (h : d.R e w base ok v xs) (hn : xs.length = n) (hp : 0 < n) : ∃ g cap, v = .slice (some ⟨g, 0, none⟩) n cap ∧ base ≤ g ∧ g < w.heap.size := by
 subst hn
 obtain ⟨g, cap, h1, h2, h3, _⟩ := Kd.R_form h hp
 exact ⟨g, cap, h1, h2, h3⟩
theorem ret_cell {P : Program} {fn : Func} {R : Ending → World → Prop} {a : Act} {w : World} {p : Tmp} {ty : TypeId} {g : Nat} {cs : Array Value} {d : TypeDesc} (h : fn.results = #[.cell p ty]) (hp : a.tmps.getD p undef = .pointer (some ⟨g, 0, none⟩)) (hd : a.defers = [])
  (hg : w.heap[g]? = some (.cells cs ty (0, 0))) (hu : P.underlying ty = some d) (hk : (match d with | .struct _ | .array _ _ => true | _ => false) = true) (hi : (P.info? ty).map (·.size) = some cs.size) (hR : R (.returned (.agg cs)) w) : bodyPost P fn R .ret a w :=
 bodyPost_ret (results_cell_row h _ _ g ty cs (0, 0) d hp hg hu hk hi) hd hR
theorem blk3 {w : World} {g : Nat} {t : TypeId} {z0 z1 z2 : Value} (h : w.heap[g]? = some (.cells #[z0, z1, z2] t (0, 0))) (u0 u1 u2 : Value) : (((w.setCell ⟨g, 0, none⟩ u0).setCell ⟨g, 1, none⟩ u1).setCell ⟨g, 2, none⟩ u2).heap[g]? = some (.cells #[u0, u1, u2] t (0, 0)) := by simpa using blk_set (blk_set (blk_set h 0 u0) 1 u1) 2 u2
theorem formS {α : Type} {d : Kd α} {e : Nat} {w : World} {base : Nat} {ok : Nat → Prop} {v : Value} {xs : List α} {n : Nat} (h : Kd.S d e w base ok v xs) (hn : xs.length = n) (hp : 0 < n) : ∃ g cap, v = .slice (some ⟨g, 0, none⟩) n cap ∧ base ≤ g ∧ g < w.heap.size := formR (Kd.S_R h) hn hp
theorem set_next {α : Type} {l : List α} {k : Nat} {x z : α} (hx : l[k]? = some x) : (l.take k ++ List.replicate (l.length - k) z).set k x = l.take (k + 1) ++ List.replicate (l.length - (k + 1)) z := by
 obtain ⟨hlt, rfl⟩ := List.getElem?_eq_some_iff.1 hx
 rw [List.set_append_right _ _ (by rw [List.length_take]; omega), List.length_take, show k - min k l.length = 0 by omega, show l.length - k = (l.length - (k + 1)) + 1 by omega, List.replicate_succ, List.set_cons_zero, List.take_succ_eq_append_getElem hlt, List.append_assoc]
 rfl
theorem infoItS : (Try.prog.info? 46).map (fun i => (i.zero, i.size, i.bytes)) = some (some (.slice none 0 0), 1, 24) := by kernel_rfl
section
variable {ops : Array Oper} {rest : List Oper} {o : Oper} {a : Act} {Q : Exit → Act → World → Prop}
theorem appsIt {w0 W : World} {base : Nat} {s x : Operand} {xs ys : List It} {ok : Nat → Prop} (hgd : o.guard = none)
  (ho : o.op = .call { callee := .builtin .append, args := #[s, x], argTypes := #[46, 46] })
  (HS : Sl kIt W (a.eval x) ys) (HO : kIt.R 118 W base ok (a.eval s) xs) (hfresh : ∀ k, W.heap.size ≤ k → ok k) (HB : Below base w0 W) (hbase : base ≤ W.heap.size) (hl : xs.length + ys.length < 3518437208000)
  (h : ∀ v1 w1, kIt.R 118 w1 base ok v1 (xs ++ ys) → Below base w0 w1 → W.grownBy w1 (a.eval s).ownBlock → ((v1.ownBlock = (a.eval s).ownBlock) ∨ ∃ b, v1.ownBlock = some b ∧ W.heap.size ≤ b) → wpList Try.prog ops Q rest (a.put o.dst v1) w1) :
  wpList Try.prog ops Q (o :: rest) a W := by
 obtain ⟨A, c, hv, hc, hC⟩ := HS
 exact Kd.R_append_rows kIt (w0 := w0) base hgd s x 46 118 (.agg #[.int .i64 0, .int .i64 0, .int .i64 0]) 24 ho Try.underlying46 infoIt rfl (by decide) (by omega) _ xs ys A _ c ok (fun _ => False) rfl hv HO hC (fun _ _ hk => kIt_M.2 (kIt_K.1 hk)) (fun _ hk => hk.elim) hfresh HB hbase (by omega) h
theorem makeIt {w0 W : World} {base : Nat} {N : Tmp} {x y : Operand} (n : Nat) (hgd : o.guard = none) (hd : o.dst = some N) (ho : o.op = .makeSlice 46 x y) (hx : a.eval x = .int .i64 n) (hy : a.eval y = .int .i64 n) (hl : n < 7036874416000)
  (HB : Below base w0 W) (hbase : base ≤ W.heap.size) (h : ∀ v1 w1, kIt.R 118 w1 base okT v1 (List.replicate n default) → Below base w0 w1 → W.grownBy w1 none → (∃ b, v1.ownBlock = some b ∧ W.heap.size ≤ b) → wpList Try.prog ops Q rest (a.put o.dst v1) w1) :
  wpList Try.prog ops Q (o :: rest) a W :=
 Kd.R_make kIt base 118 hgd hd 46 x y ho (n : Int) hx hy Try.underlying46 (.agg #[.int .i64 0, .int .i64 0, .int .i64 0]) 24 infoIt rfl (by decide) (by omega) (default : It) (okp := fun _ => False) (kIt_M.2 rfl) (fun _ hk => hk.elim) trivial (by omega) (by simp; omega) HB hbase (by simpa using h)
end
theorem RetR.mk {α : Type} {d : Kd α} {e : Nat} {w w' : World} {xs : List α} {v : Value} (h : d.R e w' w.heap.size okT v xs) (hb : Below w.heap.size w w') : RetR d e w xs (.returned v) w' := ⟨v, rfl, h, hb⟩
end Go.Proofs.Ytkdendlgaaimbaa.X
namespace Go.Proofs.Ytkdendlgaaimbaa.X
open Go.RowKit Go.Proofs.YtkdendlgaaimbaaW.PrintWords
set_option linter.unusedVariables false
set_option linter.unusedSimpArgs false
set_option maxRecDepth 100000 in
set_option maxHeartbeats 400000 in
theorem spec_l6In (n lo hi : Int) (w : World) : Calls Try.prog 94 #[.int .i64 n, .int .i64 lo, .int .i64 hi] w fun e w' => e = .returned (.bool (decide (lo ≤ n) && decide (n ≤ hi))) ∧ w = w' := by
 have HB := Aside0.mk (Below.refl w.heap.size w)
 go_enter Try.func94, Try.ntmps94
 go_wp2
 all_goals (go_ret; exact ⟨ret_bool (by first | (simp [*]; done) | (simp [*]; omega)), rfl⟩)
end Go.Proofs.Ytkdendlgaaimbaa.X
namespace Go.Proofs.Ytkdendlgaaimbaa.X
open Go.RowKit Go.Proofs.YtkdendlgaaimbaaW.PrintWords
set_option linter.unusedVariables false
set_option linter.unusedSimpArgs false
end Go.Proofs.Ytkdendlgaaimbaa.X
namespace Go.Proofs.Ytkdendlgaaimbaa.X
open Go.RowKit Go.Proofs.YtkdendlgaaimbaaW.PrintWords
set_option linter.unusedVariables false
set_option linter.unusedSimpArgs false
set_option maxRecDepth 100000 in
set_option maxHeartbeats 1000000 in
theorem spec_l2Comp (a b : Rw) (w : World) : Calls Try.prog 136 #[.agg #[.int .i64 a.f0, .int .i64 a.f1, .int .i64 a.f2.f0, .int .i64 a.f2.f1, .int .i64 a.f3], .agg #[.int .i64 b.f0, .int .i64 b.f1, .int .i64 b.f2.f0, .int .i64 b.f2.f1, .int .i64 b.f3]] w (RetV w (.int .i64 (comp a b))) := by
 rw [comp_lexi]
 obtain ⟨xs, hxs⟩ : ∃ xs, xs = [a.f0, a.f1, a.f2.f0, a.f2.f1] := ⟨_, rfl⟩
 obtain ⟨ys, hys⟩ : ∃ ys, ys = [b.f0, b.f1, b.f2.f0, b.f2.f1] := ⟨_, rfl⟩
 rw [← hxs, ← hys]
 have HXS := Lib.hid hxs
 have HYS := Lib.hid hys
 clear hxs hys
 have HB := Aside0.mk (Below.refl w.heap.size w)
 go_enter Try.func136, Try.ntmps136
 go_wp2
 refine name_world fun W hW => ?_
 have hb : Below w.heap.size w W := hW ▸ (by repeat (first | exact Below.refl _ _ | apply below_alloc))
 have HX := Aside0.mk (show kI.C W (some ⟨w.heap.size + 1 + 1, 0, none⟩) 4 [a.f0, a.f1, a.f2.f0, a.f2.f1] from (by rw [hW]; exact Kd.C_alloc (by simpa using litI ((w.alloc _).alloc _) [a.f0, a.f1, a.f2.f0, a.f2.f1] 3 (by simp)) _))
 have HY := Aside0.mk (show kI.C W (some ⟨w.heap.size + 1 + 1 + 1, 0, none⟩) 4 [b.f0, b.f1, b.f2.f0, b.f2.f1] from (by rw [hW]; simpa using litI (((w.alloc _).alloc _).alloc _) [b.f0, b.f1, b.f2.f0, b.f2.f1] 3 (by simp)))
 rw [← HXS.out] at HX
 rw [← HYS.out] at HY
 have HLX := Lib.hid (show xs.length = 4 by rw [HXS.out]; rfl)
 have HLY := Lib.hid (show ys.length = 4 by rw [HYS.out]; rfl)
 clear hW HXS HYS
 replace HB := Aside0.mk hb
 clear hb
 go_loopw [7] (fun i wr => ∃ k : Nat, k ≤ 4 ∧ i = .int .i64 k ∧ Aside0 (lexi xs ys = lexi (xs.drop k) (ys.drop k)) ∧ Aside0 (Below W.heap.size W wr)) (fun i _ => 4 - (intOf i).toNat)
 case atStart => exact ⟨0, Nat.zero_le _, rfl, ⟨rfl⟩, ⟨Below.refl _ _⟩⟩
 case round =>
  obtain ⟨k, hk, rfl, HA, HB1⟩ := hrel
  by_cases hlt : k < 4
  ·obtain ⟨ad, x, e, HX1, h0⟩ := rdI (by rw [HLX.out]; exact HX.out) HB1.out (k := k) (by rw [HLX.out]; exact hlt)
   cases e
   obtain ⟨ad, y, e, HY1, h1⟩ := rdI (by rw [HLY.out]; exact HY.out) HB1.out (k := k) (by rw [HLY.out]; exact hlt)
   cases e
   rw [add_plain] at h0 h1
   have q0 := fun u => Ext.cell h0 u
   have q1 := fun u => Ext.cell h1 u
   have HA2 := Aside0.mk (show lexi xs ys = (if x < y then -1 else if x > y then 1 else lexi (xs.drop (k + 1)) (ys.drop (k + 1))) from (by rw [HA.out, drop_cons HX1.out, drop_cons HY1.out]; rfl))
   by_cases c1 : x < y
   ·go_wp2
    refine wp_region_ext (by kernel_rfl) (by kernel_rfl) ?_
    repeat (any_goals (first | go_big_quiet_step (fail) | quiet_step (fail) | (refine wpQuiet_step (fun K hK => ?_); go_simp; split <;> (refine hK _ ?_; clear hK K))))
    all_goals (refine wpQuiet_nil ?_; intro u)
    all_goals go_wp2
    go_ret
    exact RetV.mk (by rw [HA2.out, if_pos c1]; rfl) (bthen HB.out (bthen HB1.out u.bel))
   ·go_wp2
    refine wp_region_ext (by kernel_rfl) (by kernel_rfl) ?_
    repeat (any_goals (first | go_big_quiet_step (fail) | quiet_step (fail) | (refine wpQuiet_step (fun K hK => ?_); go_simp; split <;> (refine hK _ ?_; clear hK K))))
    all_goals (refine wpQuiet_nil ?_; intro u)
    all_goals go_wp2
    have HB2 := Aside0.mk (bthen HB1.out u.bel)
    replace q0 := q0 u
    replace q1 := q1 u
    have p0 := fun u => Ext.cell q0 u
    have p1 := fun u => Ext.cell q1 u
    clear h0 h1
    by_cases c2 : y < x
    ·
     refine wp_region_ext (by kernel_rfl) (by kernel_rfl) ?_
     repeat (any_goals (first | go_big_quiet_step (fail) | quiet_step (fail) | (refine wpQuiet_step (fun K hK => ?_); go_simp; split <;> (refine hK _ ?_; clear hK K))))
     all_goals (refine wpQuiet_nil ?_; intro u2)
     all_goals go_wp2
     go_ret
     exact RetV.mk (by rw [HA2.out, if_neg (by omega), if_pos c2]; rfl) (bthen HB.out (bthen HB2.out u2.bel))
    ·
     refine wp_region_ext (by kernel_rfl) (by kernel_rfl) ?_
     repeat (any_goals (first | go_big_quiet_step (fail) | quiet_step (fail) | (refine wpQuiet_step (fun K hK => ?_); go_simp; split <;> (refine hK _ ?_; clear hK K))))
     all_goals (refine wpQuiet_nil ?_; intro u2)
     all_goals go_wp2
     go_roundw
     case rel => exact ⟨k + 1, by omega, by go_num, ⟨by rw [HA2.out, if_neg (by omega), if_neg (by omega)]⟩, ⟨bthen HB2.out u2.bel⟩⟩
     case measure => simp [intOf]; omega
  ·go_wp2
   go_ret
   exact RetV.mk (by show Value.int _ _ = _; rw [HA.out, List.drop_of_length_le (by rw [HLX.out]; omega)]; rfl) (bthen HB.out HB1.out)
end Go.Proofs.Ytkdendlgaaimbaa.X
namespace Go.Proofs.Ytkdendlgaaimbaa.X
open Go.RowKit Go.Proofs.YtkdendlgaaimbaaW.PrintWords
set_option linter.unusedVariables false
set_option linter.unusedSimpArgs false
end Go.Proofs.Ytkdendlgaaimbaa.X
namespace Go.Proofs.Ytkdendlgaaimbaa.X
open Go.RowKit Go.Proofs.YtkdendlgaaimbaaW.PrintWords
set_option linter.unusedVariables false
set_option linter.unusedSimpArgs false
set_option maxRecDepth 100000 in
set_option maxHeartbeats 400000 in
theorem spec_l3Big (w : World) : Calls Try.prog 148 #[] w (RetV w (.int .i64 1099511627776)) := by
 have HB := Aside0.mk (Below.refl w.heap.size w)
 go_enter Try.func148, Try.ntmps148
 go_wp2
 go_ret
 exact RetV.mk rfl HB.out
set_option maxRecDepth 100000 in
set_option maxHeartbeats 1000000 in
theorem spec_l3Item (x : It) (w : World) : Calls Try.prog 147 #[.agg #[.int .i64 x.f0, .int .i64 x.f1, .int .i64 x.f2]] w (RetV w (.bool (sItem x))) := by
 have HB := Aside0.mk (Below.refl w.heap.size w)
 go_enter Try.func147, Try.ntmps147
 go_wp2
 all_goals (go_ret; exact RetV.mk (by first | (simp_all [sItem]; done) | (refine vbool ?_; simp_all [sItem] <;> omega)) (by repeat (first | exact HB.out | apply below_alloc)))
set_option maxRecDepth 100000 in
set_option maxHeartbeats 3000000 in
theorem spec_SetOk (v : Value) (l : List It) (w : World) (h : Sl kIt w v l) : Calls Try.prog 103 #[v] w (RetV w (.bool (setOk l))) := by
 obtain ⟨A, c_, rfl, HC, hr⟩ := h
 have hm := Kd.C_max hr
 have HR := Aside0.mk hr
 clear hr
 by_cases hlen : l.length ≤ 400
 ·have hlen2 : decide ((l.length : Int) > 400) = false := decide_eq_false (by omega)
  have HB := Aside0.mk (Below.refl w.heap.size w)
  go_enter Try.func103, Try.ntmps103
  go_wp2
  go_loopw [3] (fun i wr => ∃ k : Nat, k ≤ l.length ∧ i = .int .i64 k ∧ Aside0 (sAsc (l.take k) = true) ∧ Aside0 (Below w.heap.size w wr)) (fun i _ => l.length - (intOf i).toNat)
  case atStart => exact ⟨0, Nat.zero_le _, rfl, ⟨by simp [sAsc]⟩, HB⟩
  case round =>
   obtain ⟨k, hk, rfl, HA, HB⟩ := hrel
   by_cases hlt : k < l.length
   ·obtain ⟨ad, x, e, HX, h0, h1, h2⟩ := rdIt HR.out HB.out hlt
    cases e
    have p0 := fun u => Ext.cell h0 u
    have p1 := fun u => Ext.cell h1 u
    have p2 := fun u => Ext.cell h2 u
    by_cases hk0 : 0 < k
    ·obtain ⟨j, rfl⟩ : ∃ j, k = j + 1 := ⟨k - 1, by omega⟩
     obtain ⟨ad', y, e, HY, i0, i1, i2⟩ := rdIt HR.out HB.out (k := j) (by omega)
     cases e
     have e1 : IntKind.i64.wrap (j : Int) = j := IntWalk.i64_in _ (by omega)
     have e2 : (j : Int) < (l.length : Int) := by omega
     have e3 : j < l.length := by omega
     have e4 : (0 : Int) ≤ (j : Int) + 1 := by omega
     have q0 := fun u => Ext.cell i0 u
     have q1 := fun u => Ext.cell i1 u
     have q2 := fun u => Ext.cell i2 u
     go_wp2
     refine wp_region_ext (by kernel_rfl) (by kernel_rfl) ?_
     repeat (any_goals (first | go_big_quiet_step (first | (go_at_call 147; exact Calls.extV (spec_l3Item x _)) | (go_at_call 148; exact Calls.extV (spec_l3Big _)) | (go_at_call 94; refine (spec_l6In _ _ _ _).mono ?_; rintro e w' ⟨rfl, rfl⟩; exact ⟨rfl, _, rfl⟩)) | quiet_step (first | (go_at_call 147; exact Calls.extV (spec_l3Item x _)) | (go_at_call 148; exact Calls.extV (spec_l3Big _)) | (go_at_call 94; refine (spec_l6In _ _ _ _).mono ?_; rintro e w' ⟨rfl, rfl⟩; exact ⟨rfl, _, rfl⟩)) | (refine wpQuiet_step (fun K hK => ?_); go_simp; split <;> (refine hK _ ?_; clear hK K))))
     all_goals (refine wpQuiet_nil ?_; intro u)
     all_goals have HB2 := Aside0.mk (bthen HB.out u.bel)
     all_goals go_wp2
     all_goals first
      | (go_roundw
         case rel => exact ⟨j + 1 + 1, by omega, by go_num, ⟨by rw [sAsc_next HA.out HY.out HX.out]; simp_all [sOk, sNext] <;> omega⟩, HB2⟩
         case measure => simp [intOf]; omega)
      | (go_ret; exact RetV.mk (by rw [setOk, sAsc_false (j + 1 + 1) (by rw [sAsc_next HA.out HY.out HX.out]; simp_all [sOk, sNext] <;> omega)]; simp) HB2.out)
    ·go_wp2
     refine wp_region_ext (by kernel_rfl) (by kernel_rfl) ?_
     repeat (any_goals (first | go_big_quiet_step (first | (go_at_call 147; exact Calls.extV (spec_l3Item x _)) | (go_at_call 148; exact Calls.extV (spec_l3Big _)) | (go_at_call 94; refine (spec_l6In _ _ _ _).mono ?_; rintro e w' ⟨rfl, rfl⟩; exact ⟨rfl, _, rfl⟩)) | quiet_step (first | (go_at_call 147; exact Calls.extV (spec_l3Item x _)) | (go_at_call 148; exact Calls.extV (spec_l3Big _)) | (go_at_call 94; refine (spec_l6In _ _ _ _).mono ?_; rintro e w' ⟨rfl, rfl⟩; exact ⟨rfl, _, rfl⟩)) | (refine wpQuiet_step (fun K hK => ?_); go_simp; split <;> (refine hK _ ?_; clear hK K))))
     all_goals (refine wpQuiet_nil ?_; intro u)
     all_goals have HB2 := Aside0.mk (bthen HB.out u.bel)
     all_goals go_wp2
     all_goals first
      | (go_roundw
         case rel => exact ⟨k + 1, by omega, by go_num, ⟨by rw [sAsc_first HX.out hk0]; simp_all [sOk] <;> omega⟩, HB2⟩
         case measure => simp [intOf]; omega)
      | (go_ret; exact RetV.mk (by rw [setOk, sAsc_false (k + 1) (by rw [sAsc_first HX.out hk0]; simp_all [sOk] <;> omega)]; simp) HB2.out)
   ·go_wp2
    go_ret
    exact RetV.mk (by rw [setOk, sAsc_done HA.out hlt]; simp [hlen]) HB.out
 ·have hlen2 : decide ((l.length : Int) > 400) = true := decide_eq_true (by omega)
  have HB := Aside0.mk (Below.refl w.heap.size w)
  go_enter Try.func103, Try.ntmps103
  go_wp2
  go_ret
  exact RetV.mk (by simp [setOk, hlen]) HB.out
set_option maxRecDepth 100000 in
set_option maxHeartbeats 3000000 in
theorem impl_SetOk (v : Value) (l : List It) (w : World) (h : Sl kIt w v l) : Calls Try.prog 43 #[v] w (RetV w (.bool (setOk l))) := by
 obtain ⟨A, c_, rfl, HC, hr⟩ := h
 have hm := Kd.C_max hr
 have HR := Aside0.mk hr
 clear hr
 have HB := Aside0.mk (Below.refl w.heap.size w)
 go_enter Try.func43, Try.ntmps43
 go_wp2
 go_loopw [7] (fun i wr => ∃ k : Nat, k ≤ l.length ∧ i = .int .i64 k ∧ Aside0 (sAsc (l.take k) = true) ∧ Aside0 (Below w.heap.size w wr)) (fun i _ => l.length - (intOf i).toNat)
 case atStart => exact ⟨0, Nat.zero_le _, rfl, ⟨by simp [sAsc]⟩, HB⟩
 case round =>
  obtain ⟨k, hk, rfl, HA, HB⟩ := hrel
  by_cases hlt : k < l.length
  ·obtain ⟨ad, x, e, HX, h0, h1, h2⟩ := rdIt HR.out HB.out hlt
   cases e
   by_cases hk0 : 0 < k
   ·obtain ⟨j, rfl⟩ : ∃ j, k = j + 1 := ⟨k - 1, by omega⟩
    obtain ⟨ad', y, e, HY, i0, i1, i2⟩ := rdIt HR.out HB.out (k := j) (by omega)
    cases e
    have e1 : IntKind.i64.wrap (j : Int) = j := IntWalk.i64_in _ (by omega)
    have e2 : (j : Int) < (l.length : Int) := by omega
    have e3 : j < l.length := by omega
    have e4 : (0 : Int) ≤ (j : Int) + 1 := by omega
    go_wp2
    any_goals (go_ret; exact RetV.mk (by rw [setOk, sAsc_false (j + 1 + 1) (by rw [sAsc_next HA.out HY.out HX.out]; simp_all [sOk, sItem, sNext] <;> omega)]; simp) (below_alloc HB.out _))
    refine name_world fun W hW => ?_
    have hb : Below wr.heap.size wr W := hW ▸ below_alloc (Below.refl _ _) _
    have b0 : ∀ u : Ext W, u.w'.cell? ⟨wr.heap.size, 0, none⟩ = some (.int .i64 x.f0) := Ext.cell (by rw [hW]; simp)
    have b1 : ∀ u : Ext W, u.w'.cell? ⟨wr.heap.size, 1, none⟩ = some (.int .i64 x.f1) := Ext.cell (by rw [hW]; simp)
    have q0 := fun u => Ext.cell (pw_cell_below hb i0) u
    have q1 := fun u => Ext.cell (pw_cell_below hb i1) u
    have q2 := fun u => Ext.cell (pw_cell_below hb i2) u
    clear hW
    refine wp_region_ext (by kernel_rfl) (by kernel_rfl) ?_
    repeat (any_goals (first | go_big_quiet_step (fail) | quiet_step (fail) | (refine wpQuiet_step (fun K hK => ?_); go_simp; split <;> (refine hK _ ?_; clear hK K))))
    all_goals (refine wpQuiet_nil ?_; intro u)
    all_goals have HB2 := Aside0.mk (bthen HB.out (bthen hb u.bel))
    all_goals go_wp2
    all_goals first
     | (go_roundw
        case rel => exact ⟨j + 1 + 1, by omega, by go_num, ⟨by rw [sAsc_next HA.out HY.out HX.out]; simp_all [sOk, sItem, sNext] <;> omega⟩, HB2⟩
        case measure => simp [intOf]; omega)
     | (go_ret; exact RetV.mk (by rw [setOk, sAsc_false (j + 1 + 1) (by rw [sAsc_next HA.out HY.out HX.out]; simp_all [sOk, sItem, sNext] <;> omega)]; simp) HB2.out)
   ·
    go_wp2
    any_goals (go_ret; exact RetV.mk (by rw [setOk, sAsc_false (k + 1) (by rw [sAsc_first HX.out hk0]; simp_all [sOk, sItem] <;> omega)]; simp) (below_alloc HB.out _))
    refine name_world fun W hW => ?_
    have hb : Below wr.heap.size wr W := hW ▸ below_alloc (Below.refl _ _) _
    have b0 : ∀ u : Ext W, u.w'.cell? ⟨wr.heap.size, 0, none⟩ = some (.int .i64 x.f0) := Ext.cell (by rw [hW]; simp)
    have b1 : ∀ u : Ext W, u.w'.cell? ⟨wr.heap.size, 1, none⟩ = some (.int .i64 x.f1) := Ext.cell (by rw [hW]; simp)
    clear hW
    refine wp_region_ext (by kernel_rfl) (by kernel_rfl) ?_
    repeat (any_goals (first | go_big_quiet_step (fail) | quiet_step (fail) | (refine wpQuiet_step (fun K hK => ?_); go_simp; split <;> (refine hK _ ?_; clear hK K))))
    all_goals (refine wpQuiet_nil ?_; intro u)
    all_goals have HB2 := Aside0.mk (bthen HB.out (bthen hb u.bel))
    all_goals go_wp2
    all_goals first
     | (go_roundw
        case rel => exact ⟨k + 1, by omega, by go_num, ⟨by rw [sAsc_first HX.out hk0]; simp_all [sOk, sItem] <;> omega⟩, HB2⟩
        case measure => simp [intOf]; omega)
     | (go_ret; exact RetV.mk (by rw [setOk, sAsc_false (k + 1) (by rw [sAsc_first HX.out hk0]; simp_all [sOk, sItem] <;> omega)]; simp) HB2.out)
  ·go_wp2
   go_ret
   exact RetV.mk (vbool (by rw [setOk, sAsc_done HA.out hlt]; simp; omega)) HB.out
end Go.Proofs.Ytkdendlgaaimbaa.X
namespace Go.Proofs.Ytkdendlgaaimbaa.X
open Go.RowKit
def Ev {α : Type} (f : Nat → Option α) (r : α) : Prop := ∃ K, ∀ k, K ≤ k → f k = some r
theorem Ev.bind {α β : Type} {f : Nat → Option α} {a : α} {g : Nat → α → Option β} {b : β} (h : Ev f a) (h2 : Ev (fun k => g k a) b) : Ev (fun k => (f k).bind (g k)) b := by
 obtain ⟨K, h⟩ := h
 obtain ⟨L, h2⟩ := h2
 refine ⟨max K L, fun k hk => ?_⟩
 show (f k).bind (g k) = some b
 rw [h k (by omega)]
 exact h2 k (by omega)
theorem Ev.pure {α : Type} (a : α) : Ev (fun _ => some a) a := ⟨0, fun _ _ => rfl⟩
theorem Ev.all {α : Type} {f : Nat → Option α} {a : α} (h : ∀ k, f k = some a) : Ev f a := ⟨0, fun k _ => h k⟩
theorem Ev.succ {α : Type} {f : Nat → Option α} {a : α} (h : Ev (fun k => f (k + 1)) a) : Ev f a := by
 obtain ⟨K, h⟩ := h
 refine ⟨K + 1, fun k hk => ?_⟩
 obtain ⟨j, rfl⟩ : ∃ j, k = j + 1 := ⟨k - 1, by omega⟩
 exact h j (by omega)
theorem Ev.of {α : Type} {f g : Nat → Option α} {a : α} (h : Ev f a) (e : ∀ k, g k = f k) : Ev g a := by
 obtain ⟨K, h⟩ := h
 exact ⟨K, fun k hk => by rw [e]; exact h k hk⟩
theorem Ev.get {α : Type} {f : Nat → Option α} {a : α} (h : Ev f a) : ∃ k, f k = some a := by
 obtain ⟨K, h⟩ := h
 exact ⟨K, h K (Nat.le_refl _)⟩
theorem wsmall {n : Int} (h0 : 0 ≤ n) (h1 : n < 9223372036854775808) : wrap64 n = n := by unfold wrap64; omega
theorem wnext {i m : Nat} (h : i < m) (hm : m ≤ 1152921504606846976) : wrap64 ((i : Int) + 1) = ((i + 1 : Nat) : Int) := by rw [wsmall (by omega) (by omega)]; omega
end Go.Proofs.Ytkdendlgaaimbaa.X
namespace Go.Proofs.Ytkdendlgaaimbaa.X
open Go.RowKit Go.Proofs.YtkdendlgaaimbaaW.PrintWords
set_option linter.unusedVariables false
set_option linter.unusedSimpArgs false
section
variable {P : Program} {ops : Array Oper} {rest : List Oper} {o : Oper} {a : Act} {Q : Exit → Act → World → Prop} {α : Type}
end
end Go.Proofs.Ytkdendlgaaimbaa.X
namespace Go.Proofs.Ytkdendlgaaimbaa.X
open Go.RowKit Go.Proofs.YtkdendlgaaimbaaW.PrintWords
set_option linter.unusedVariables false
set_option linter.unusedSimpArgs false
theorem set_mid {α : Type} (A l : List α) (i : Nat) (y : α) (hA : A.length = i) (hi : i < l.length) : (A ++ l.drop i).set i y = (A ++ [y]) ++ l.drop (i + 1) := by
 subst hA
 rw [List.set_append_right _ _ (Nat.le_refl _), Nat.sub_self, List.drop_eq_getElem_cons hi, List.set_cons_zero, List.append_assoc]
 rfl
theorem wrapM {x y : Int} (h : x = y) (hy : 0 ≤ y ∧ y < 9223372036854775808) : IntKind.i64.wrap x = y := by subst h; exact IntWalk.i64_in _ (by omega)
section
variable {P : Program} {ops : Array Oper} {rest : List Oper} {o : Oper} {a : Act} {Q : Exit → Act → World → Prop}
end
end Go.Proofs.Ytkdendlgaaimbaa.X
namespace Go.Proofs.Ytkdendlgaaimbaa.X
open Go.RowKit Go.Proofs.YtkdendlgaaimbaaW.PrintWords
set_option linter.unusedVariables false
set_option linter.unusedSimpArgs false
section
variable {P : Program} {ops : Array Oper} {rest : List Oper} {o : Oper} {a : Act} {Q : Exit → Act → World → Prop}
end
end Go.Proofs.Ytkdendlgaaimbaa.X
namespace Go.Proofs.Ytkdendlgaaimbaa.X
open Go.RowKit Go.ChangeShapes Go.WideShapes Go.WideElems Go.Deep Go.Proofs.YtkdendlgaaimbaaW.PrintWords
set_option linter.unusedVariables false
set_option linter.unusedSimpArgs false
def Opens {α : Type} (t : TypeId) (d : Kd α) : Prop := ∀ (H : Type) (enc : TypeId × Value → H) (w : World) (base : Nat) (spare : Nat → Bool) (held : Bool) (fuel : Nat) (cs : List Value) (x : DataW H × List MemPlace),
 DataW.trod enc Try.prog w base spare held fuel t cs = some x → ∃ a : α, d.K w a cs
theorem cells1 : Try.prog.cellsOf 3 = 1 := by kernel_rfl
theorem opens_int {H : Type} {enc : TypeId × Value → H} {w : World} {base : Nat} {spare : Nat → Bool} {held : Bool} {fuel : Nat} {cs : List Value} {x : DataW H × List MemPlace}
  (h : DataW.trod enc Try.prog w base spare held fuel 3 cs = some x) : ∃ n, cs = [.int .i64 n] := by
 obtain ⟨n, h1, _, _⟩ := DataW.trod_int Try.underlying3 h
 exact ⟨n, h1⟩
theorem opens_slice {α : Type} {t e : TypeId} {d : Kd α} (ht : Try.prog.underlying t = some (.slice e)) (hc : Try.prog.cellsOf e = d.sz) (ho : Opens e d) : Opens t (Kd.slice e d) := by
 intro H enc w base spare held fuel cs x h
 rcases open_slice ht h with ⟨rfl, _⟩ | ⟨a, len, cap, m, n, D, Pl, rfl, _, hl, hm, hmm, _, hel⟩
 ·exact ⟨[], none, 0, rfl, Nat.le_refl _, Kd.C_nil d w⟩
 ·have hlm : len ≤ m := by rw [hmm]; split <;> omega
  have : ∀ i, ∃ xi : Option α, i < len → ∃ y, xi = some y ∧ ∃ cs', w.cells? base (a.add (i * Try.prog.cellsOf e)) (Try.prog.cellsOf e) = some cs' ∧ d.K w y cs' := fun i => by
   by_cases hi : i < len
   ·obtain ⟨cs', h1, h2⟩ := hel i (by omega)
    obtain ⟨y, hy⟩ := ho _ _ _ _ _ _ _ _ _ h2
    exact ⟨some y, fun _ => ⟨y, rfl, cs', h1, hy⟩⟩
   ·exact ⟨none, fun h => absurd h hi⟩
  let f : Nat → Option α := fun i => (this i).choose
  have hf : ∀ i, i < len → ∃ y, f i = some y ∧ ∃ cs', w.cells? base (a.add (i * Try.prog.cellsOf e)) (Try.prog.cellsOf e) = some cs' ∧ d.K w y cs' := fun i hi => (this i).choose_spec hi
  have hxs : ∀ l, l ≤ len → ∃ xs : List α, xs.length = l ∧ ∀ j, j < l → xs[j]? = f j := fun l => by
   induction l with
   | zero => exact fun _ => ⟨[], rfl, fun j h => by omega⟩
   | succ l ih =>
    intro hl'
    obtain ⟨xs, h1, h2⟩ := ih (by omega)
    obtain ⟨y, hy, _⟩ := hf l (by omega)
    refine ⟨xs ++ [y], by simp [h1], fun j hj => ?_⟩
    by_cases hjl : j < l
    ·rw [List.getElem?_append_left (by omega)]; exact h2 j hjl
    ·have : j = l := by omega
     subst this
     rw [List.getElem?_append_right (by omega), h1, Nat.sub_self, hy]; rfl
  obtain ⟨xs, h1, h2⟩ := hxs len (Nat.le_refl _)
  have hmx : maxLen = 9223372036854775807 := by decide
  have hmax : xs.length ≤ 9223372036854775807 := by omega
  refine ⟨xs, some a, cap, by rw [h1], by omega, rfl, hmax, fun _ => ⟨a, rfl, fun j p hj => ?_⟩⟩
  have hjl : j < len := by have := (List.getElem?_eq_some_iff.1 hj).1; omega
  obtain ⟨y, hy, cs', hcs, hK⟩ := hf j hjl
  have hp : p = y := by have := h2 j hjl; rw [hj, hy] at this; exact Option.some.inj this
  subst hp
  obtain ⟨_, hlen, hcell⟩ := World.cells?_some hcs
  refine ⟨cs', d.K_len hK, hK, fun i u hu => ?_⟩
  have hi : i < cs'.length := (List.getElem?_eq_some_iff.1 hu).1
  have := hcell i (by omega)
  rw [Go.Deep.add_add, hc] at this
  rw [this, hu]
theorem okWide_slice' {P : Program} {w : World} {r : Reach} {base : Nat} {t e : TypeId} {v : Value} (ht : P.underlying t = some (.slice e)) (h : Value.okWide P w r base t v) : ∃ a len cap, v = .slice a len cap := okWide_slice ht h
set_option maxRecDepth 100000 in
theorem arg_slice {α : Type} {H : Type} {enc : TypeId × Value → H} {w : World} {base b0 : Nat} {spare : Nat → Bool} {held : Bool} {r : Reach} {t e : TypeId} {d : Kd α} {v : Value} {x : DataW H} {p : List MemPlace} (ht : Try.prog.underlying t = some (.slice e)) (ho : Opens t (Kd.slice e d))
  (hv : Value.okWide Try.prog w r b0 t v) (h : DataW.Trod enc Try.prog w base spare held t v x p) : ∃ l, Sl d w v l := by
 obtain ⟨a, len, cap, rfl⟩ := okWide_slice' (P := Try.prog) ht hv
 obtain ⟨fuel, hf⟩ := h
 obtain ⟨l, A, c, h1, h2, h3⟩ := ho _ _ _ _ _ _ _ _ _ hf
 exact ⟨l, A, c, by simpa [Value.cells] using h1, h2, h3⟩
set_option maxRecDepth 100000 in
theorem cellsIt : Try.prog.cellsOf 163 = 3 := by kernel_rfl
set_option maxRecDepth 100000 in
theorem opens_It : Opens 163 kIt := by
 intro H enc w base spare held fuel cs x h
 obtain ⟨y0, y1, y2, n, _, hl, h0, h1, h2⟩ := trod_struct3 Try.underlying163 h
 simp only [cells1] at h0 h1 h2
 rw [cellsIt] at hl
 obtain ⟨n0, e0⟩ := opens_int h0
 obtain ⟨n1, e1⟩ := opens_int h1
 obtain ⟨n2, e2⟩ := opens_int h2
 match cs, hl with
 | [c0, c1, c2], _ =>
  simp at e0 e1 e2
  exact ⟨⟨n0, n1, n2⟩, kIt_K.2 (by rw [e0, e1, e2]; rfl)⟩
theorem opens_ItS : Opens 138 (Kd.slice 163 kIt) := opens_slice Try.underlying138 cellsIt opens_It
theorem opens_ItSS : Opens 84 (Kd.slice 138 (Kd.slice 163 kIt)) := opens_slice Try.underlying84 (by kernel_rfl) opens_ItS
end Go.Proofs.Ytkdendlgaaimbaa.X
