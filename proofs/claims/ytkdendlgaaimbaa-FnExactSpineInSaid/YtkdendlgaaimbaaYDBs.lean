/- Conditions: none. -/
import Derived.Test.YtkdendlgaaimbaaProg
import Derived.Test.YtkdendlgaaimbaaVAWords
import Derived.Test.YtkdendlgaaimbaaVAApart
import Derived.StillTailTactics
import Derived.Test.YtkdendlgaaimbaaYCPl
import Derived.Test.YtkdendlgaaimbaaYDPl
import Derived.Lib.Hide
import Derived.Laws.BitsLemmas
import Derived.Laws.CopyRow
import Derived.Laws.CopyOwn
import Derived.Test.YtkdendlgaaimbaaVAKept
import Derived.Lib.SmallJoins
import Derived.Test.YtkdendlgaaimbaaYCBs
namespace Go.Proofs.Ytkdendlgaaimbaa.X
open Go.RowKit Go.Proofs.YtkdendlgaaimbaaW.PrintWords
instance (w : World) : Nonempty (Ext w) := ⟨Ext.drew1 w⟩
theorem ret_bool {a b : Bool} (h : a = b) : Ending.returned (.bool a) = .returned (.bool b) := by rw [h]
theorem vbool {a b : Bool} (h : a = true ↔ b = true) : Value.bool a = .bool b := by rw [Bool.eq_iff_iff.2 h]
theorem drop_cons {α : Type} {l : List α} {k : Nat} {x : α} (hx : l[k]? = some x) : l.drop k = x :: l.drop (k + 1) := by
 obtain ⟨hlt, rfl⟩ := List.getElem?_eq_some_iff.1 hx
 exact List.drop_eq_getElem_cons hlt
theorem all_take_succ {α : Type} {p : α → Bool} {l : List α} {k : Nat} {x : α} (h : (l.take k).all p = true) (hx : l[k]? = some x) (hp : p x = true) : (l.take (k + 1)).all p = true := by
 rw [take_snoc hx, List.all_append, h]; simp [hp]
theorem all_bad {α : Type} {p : α → Bool} {l : List α} {k : Nat} {x : α} (hx : l[k]? = some x) (hp : p x = false) : l.all p = false := by
 obtain ⟨hlt, rfl⟩ := List.getElem?_eq_some_iff.1 hx
 exact List.all_eq_false.2 ⟨_, List.getElem_mem hlt, by simp [hp]⟩
theorem all_done {α : Type} {p : α → Bool} {l : List α} {k : Nat} (h : (l.take k).all p = true) (hk : ¬ k < l.length) : l.all p = true := by rwa [List.take_of_length_le (by omega)] at h
theorem any_take_succ {α : Type} {p : α → Bool} {l : List α} {k : Nat} {x : α} (h : (l.take k).any p = false) (hx : l[k]? = some x) (hp : p x = false) : (l.take (k + 1)).any p = false := by
 rw [take_snoc hx, List.any_append, h]; simp [hp]
theorem any_hit {α : Type} {p : α → Bool} {l : List α} {k : Nat} {x : α} (hx : l[k]? = some x) (hp : p x = true) : l.any p = true := by
 obtain ⟨hlt, rfl⟩ := List.getElem?_eq_some_iff.1 hx
 exact List.any_eq_true.2 ⟨_, List.getElem_mem hlt, hp⟩
theorem any_done {α : Type} {p : α → Bool} {l : List α} {k : Nat} (h : (l.take k).any p = false) (hk : ¬ k < l.length) : l.any p = false := by rwa [List.take_of_length_le (by omega)] at h
def kI : Kd Int := Kd.int .i64
section
variable {α : Type} {d : Kd α} {e : Nat} {w w1 wr : World} {base : Nat} {ok : Nat → Prop} {v : Value} {xs : List α} {A : Option Addr} {c : Nat}
theorem Sl.of_R (h : d.R e w base ok v xs) : Sl d w v xs := by obtain ⟨A, c, h1, h2, h3⟩ := Kd.R_reads h; exact ⟨A, c, h1, h2, h3⟩
theorem Sl.below (h : Sl d w v xs) (hb : Below w.heap.size w w1) : Sl d w1 v xs := by obtain ⟨A, c, h1, h2, h3⟩ := h; exact ⟨A, c, h1, h2, Kd.C_below h3 hb⟩
theorem Sl.mk' (h : d.C w A xs.length xs) (hc : xs.length ≤ c) : Sl d w (.slice A xs.length c) xs := ⟨A, c, rfl, hc, h⟩
theorem Sl.nil (d : Kd α) (w : World) : Sl d w (.slice none 0 0) [] := ⟨none, 0, rfl, Nat.le_refl _, Kd.C_nil d w⟩
end
section
variable {w wr : World} {A : Option Addr} {k : Nat}
theorem rdTm {xs : List Tm} (h : kTm.C w A xs.length xs) (hb : Below w.heap.size w wr) (hk : k < xs.length) : ∃ ad x, A = some ad ∧ Aside0 (xs[k]? = some x) ∧ wr.cell? (ad.add (k * 2)) = some (.int .i64 x.f0) ∧ wr.cell? ⟨(ad.add (k * 2)).block, (ad.add (k * 2)).off + 1, none⟩ = some (.int .i64 x.f1) := by
 obtain ⟨ad, x, cs, e, hx, hK, hc⟩ := cget h hb hk
 rw [kTm_K] at hK; subst hK
 exact ⟨ad, x, e, ⟨hx⟩, hc 0 _ rfl, by rw [← add_field _ _ 1 (by omega)]; exact hc 1 _ rfl⟩
theorem rdTm0 {xs : List Tm} (h : kTm.C w A xs.length xs) (hb : Below w.heap.size w wr) (hk : 0 < xs.length) : ∃ ad x, A = some ad ∧ Aside0 (xs[0]? = some x) ∧ wr.cell? ad = some (.int .i64 x.f0) ∧ wr.cell? ⟨ad.block, ad.off + 1, none⟩ = some (.int .i64 x.f1) := by
 obtain ⟨ad, x, e, HX, h0, h1⟩ := rdTm h hb hk
 have ea : ad.add (0 * 2) = ad := by simp [Addr.add]
 rw [ea] at h0 h1
 exact ⟨ad, x, e, HX, h0, h1⟩
theorem rdSl {α : Type} {d : Kd α} {e : Nat} {xs : List (List α)} (h : (Kd.slice e d).C w A xs.length xs) (hb : Below w.heap.size w wr) (hk : k < xs.length) : ∃ ad x A1 c1, A = some ad ∧ Aside0 (xs[k]? = some x) ∧ wr.cell? (ad.add k) = some (.slice A1 x.length c1) ∧ Aside0 (Sl d wr (.slice A1 x.length c1) x) := by
 obtain ⟨ad, x, cs, e, hx, ⟨A1, c1, rfl, h2, h3⟩, hc⟩ := cget h hb hk
 have h0 := hc 0 _ rfl
 rw [Nat.add_zero, show (Kd.slice _ d).sz = 1 from rfl, Nat.mul_one] at h0
 exact ⟨ad, x, A1, c1, e, ⟨hx⟩, h0, ⟨⟨A1, c1, rfl, h2, h3⟩⟩⟩
end
section
variable {w wr : World} {A : Option Addr} {k : Nat}
theorem rdI {xs : List Int} (h : kI.C w A xs.length xs) (hb : Below w.heap.size w wr) (hk : k < xs.length) : ∃ ad x, A = some ad ∧ Aside0 (xs[k]? = some x) ∧ wr.cell? (ad.add k) = some (.int .i64 x) := by
 obtain ⟨ad, x, cs, e, hx, hK, hc⟩ := cget h hb hk
 obtain rfl : cs = [.int .i64 x] := hK
 have h0 := hc 0 _ rfl
 rw [Nat.add_zero, show kI.sz = 1 from rfl, Nat.mul_one] at h0
 exact ⟨ad, x, e, ⟨hx⟩, h0⟩
end
theorem litI (W : World) (xs : List Int) (t : TypeId) (hx : xs.length ≤ 1000) : kI.C (W.alloc (.cells (xs.map (Value.int .i64)).toArray t)) (some ⟨W.heap.size, 0, none⟩) xs.length xs := by
 refine ⟨rfl, by omega, fun _ => ⟨_, rfl, fun j p hj => ⟨[.int .i64 p], rfl, rfl, fun i u hu => ?_⟩⟩⟩
 have hi : i = 0 := by have := (List.getElem?_eq_some_iff.1 hu).1; simp at this; omega
 subst hi
 have : u = .int .i64 p := by simpa using hu.symm
 subst this
 rw [Nat.add_zero, show kI.sz = 1 from rfl, Nat.mul_one, add_plain, blk_cell (blk_new W _)]
 simp [hj]
section
variable {P : Program} {ops : Array Oper} {rest : List Oper} {o : Oper} {a : Act} {Q : Exit → Act → World → Prop} {α : Type}
theorem storeEl (d : Kd α) {w0 W : World} {base : Nat} (hN : o.dst = none) (hgd : o.guard = none) {t : TypeId} {p x : Operand} (ho : o.op = .store t p x) {e g n cap o' : Nat} (k : Nat) {xs : List α} (x' : α) (cs : List Value) {ok okp : Nat → Prop}
  (haddr : a.eval p = .pointer (some ⟨g, o', none⟩)) (hoff : o' = k * d.sz) (hu : (a.eval x).cells.toList = cs) (ht : (P.info? t).map (·.size) = some d.sz)
  (HO : d.R e W base ok (.slice (some ⟨g, 0, none⟩) n cap) xs) (hi : k < n) (hM : d.M W base okp x' cs) (hokp : ∀ q, okp q → ok q ∧ q ≠ g) (HB : Below base w0 W)
  (h : ∀ w1, d.R e w1 base ok (.slice (some ⟨g, 0, none⟩) n cap) (xs.set k x') → Below base w0 w1 → W.grownBy w1 (some g) → wpList P ops Q rest a w1) : wpList P ops Q (o :: rest) a W := by
 have hl := d.K_len (d.K_of_M hM)
 obtain ⟨c, hcl, _, hcc, _⟩ := Kd.R_elem HO x' (k : Int) (by omega) (by omega)
 simp only [Int.toNat_natCast] at hcc
 refine Kd.R_store d base hN hgd t p x ho e (k : Int) 0 xs x' _ cs c ok okp haddr (by simpa using hoff) rfl hu (by rw [hl]; exact ht) (d.K_one (d.K_of_M hM)) HO (by omega) (by omega) hcl (by simpa using hcc) (by omega) ?_ hokp HB (by simpa using h)
 rw [List.take_zero, List.nil_append, Nat.zero_add, hl, List.drop_of_length_le (by omega), List.append_nil]
 exact hM
end
section
variable {P : Program} {ops : Array Oper} {rest : List Oper} {o : Oper} {a : Act} {Q : Exit → Act → World → Prop} {α : Type}
theorem storeElS (d : Kd α) {w0 W : World} {base N : Nat} (hN : o.dst = none) (hgd : o.guard = none) {t : TypeId} {p x : Operand} (ho : o.op = .store t p x) {e g n cap o' : Nat} (k : Nat) {xs : List α} (x' : α) (cs : List Value)
  (haddr : a.eval p = .pointer (some ⟨g, o', none⟩)) (hoff : o' = k * d.sz) (hu : (a.eval x).cells.toList = cs) (ht : (P.info? t).map (·.size) = some d.sz)
  (HO : Kd.S d e W base (fun k => k < N) (.slice (some ⟨g, 0, none⟩) n cap) xs) (hn : xs.length = n) (hi : k < n) (hM : d.M W base (fun k => N ≤ k) x' cs) (HB : Below base w0 W)
  (h : ∀ w1, Kd.S d e w1 base okT (.slice (some ⟨g, 0, none⟩) n cap) (xs.set k x') → Below base w0 w1 → W.grownBy w1 (some g) → wpList P ops Q rest a w1) : wpList P ops Q (o :: rest) a W := by
 obtain ⟨f, hf, HT⟩ := Kd.S_tag HO k (fun k => N ≤ k) (fun _ h1 h2 => by omega)
 have hg : g < N := HT.1 g rfl
 refine storeEl (Kd.tag f d) hN hgd ho k (x', k) cs (okp := fun q => N ≤ q) haddr hoff hu ht (Kd.R_mono HT (fun _ _ => trivial)) hi (d.M_mono (fun q hq => ⟨hq, hf q hq⟩) hM) (fun q hq => ⟨trivial, by omega⟩) HB (fun w1 h1 hb hgr => h w1 ⟨f, ?_⟩ hb hgr)
 have e : xs.zipIdx.set k (x', k) = (xs.set k x').zipIdx := by
  apply List.ext_getElem?
  intro i
  rw [List.getElem?_zipIdx, List.getElem?_set, List.getElem?_set, List.length_zipIdx, List.getElem?_zipIdx]
  by_cases hk : k = i
  ·subst hk
   rw [if_pos rfl, if_pos rfl, if_pos (by omega), if_pos (by omega)]
   simp
  ·rw [if_neg hk, if_neg hk]
 rw [e] at h1
 exact h1
end
theorem formR {α : Type} {d : Kd α} {e : Nat} {w : World} {base : Nat} {ok : Nat → Prop} {v : Value} {xs : List α} {n : Nat} (h : d.R e w base ok v xs) (hn : xs.length = n) (hp : 0 < n) : ∃ g cap, v = .slice (some ⟨g, 0, none⟩) n cap ∧ base ≤ g ∧ g < w.heap.size := by
 subst hn
 obtain ⟨g, cap, h1, h2, h3, _⟩ := Kd.R_form h hp
 exact ⟨g, cap, h1, h2, h3⟩
theorem ret_cell {P : Program} {fn : Func} {R : Ending → World → Prop} {a : Act} {w : World} {p : Tmp} {ty : TypeId} {g : Nat} {cs : Array Value} {d : TypeDesc} (h : fn.results = #[.cell p ty]) (hp : a.tmps.getD p undef = .pointer (some ⟨g, 0, none⟩)) (hd : a.defers = [])
  (hg : w.heap[g]? = some (.cells cs ty (0, 0))) (hu : P.underlying ty = some d) (hk : (match d with | .struct _ | .array _ _ => true | _ => false) = true) (hi : (P.info? ty).map (·.size) = some cs.size) (hR : R (.returned (.agg cs)) w) : bodyPost P fn R .ret a w :=
 bodyPost_ret (results_cell_row h _ _ g ty cs (0, 0) d hp hg hu hk hi) hd hR
theorem blk2 {w : World} {g : Nat} {t : TypeId} {z0 z1 : Value} (h : w.heap[g]? = some (.cells #[z0, z1] t (0, 0))) (u0 u1 : Value) : ((w.setCell ⟨g, 0, none⟩ u0).setCell ⟨g, 1, none⟩ u1).heap[g]? = some (.cells #[u0, u1] t (0, 0)) := by simpa using blk_set (blk_set h 0 u0) 1 u1
theorem blk5 {w : World} {g : Nat} {t : TypeId} {z0 z1 z2 z3 z4 : Value} (h : w.heap[g]? = some (.cells #[z0, z1, z2, z3, z4] t (0, 0))) (u0 u1 u2 u3 u4 : Value) : (((((w.setCell ⟨g, 0, none⟩ u0).setCell ⟨g, 1, none⟩ u1).setCell ⟨g, 2, none⟩ u2).setCell ⟨g, 3, none⟩ u3).setCell ⟨g, 4, none⟩ u4).heap[g]? = some (.cells #[u0, u1, u2, u3, u4] t (0, 0)) := by simpa using blk_set (blk_set (blk_set (blk_set (blk_set h 0 u0) 1 u1) 2 u2) 3 u3) 4 u4
theorem formS {α : Type} {d : Kd α} {e : Nat} {w : World} {base : Nat} {ok : Nat → Prop} {v : Value} {xs : List α} {n : Nat} (h : Kd.S d e w base ok v xs) (hn : xs.length = n) (hp : 0 < n) : ∃ g cap, v = .slice (some ⟨g, 0, none⟩) n cap ∧ base ≤ g ∧ g < w.heap.size := formR (Kd.S_R h) hn hp
theorem set_next {α : Type} {l : List α} {k : Nat} {x z : α} (hx : l[k]? = some x) : (l.take k ++ List.replicate (l.length - k) z).set k x = l.take (k + 1) ++ List.replicate (l.length - (k + 1)) z := by
 obtain ⟨hlt, rfl⟩ := List.getElem?_eq_some_iff.1 hx
 rw [List.set_append_right _ _ (by rw [List.length_take]; omega), List.length_take, show k - min k l.length = 0 by omega, show l.length - k = (l.length - (k + 1)) + 1 by omega, List.replicate_succ, List.set_cons_zero, List.take_succ_eq_append_getElem hlt, List.append_assoc]
 rfl
theorem infoTm : (Try.prog.info? 43).map (fun i => (i.zero, i.size, i.bytes)) = some (some (.agg #[.int .i64 0, .int .i64 0]), 2, 16) := by kernel_rfl
theorem infoRwS : (Try.prog.info? 27).map (fun i => (i.zero, i.size, i.bytes)) = some (some (.slice none 0 0), 1, 24) := by kernel_rfl
theorem underRwSS : Try.prog.underlying 23 = some (.slice 27) := Try.underlying23
section
variable {ops : Array Oper} {rest : List Oper} {o : Oper} {a : Act} {Q : Exit → Act → World → Prop}
theorem makeTm {w0 W : World} {base : Nat} {N : Tmp} {x y : Operand} (n : Nat) (hgd : o.guard = none) (hd : o.dst = some N) (ho : o.op = .makeSlice 24 x y) (hx : a.eval x = .int .i64 n) (hy : a.eval y = .int .i64 n) (hl : n < 7036874416000)
  (HB : Below base w0 W) (hbase : base ≤ W.heap.size) (h : ∀ v1 w1, kTm.R 43 w1 base okT v1 (List.replicate n default) → Below base w0 w1 → W.grownBy w1 none → (∃ b, v1.ownBlock = some b ∧ W.heap.size ≤ b) → wpList Try.prog ops Q rest (a.put o.dst v1) w1) :
  wpList Try.prog ops Q (o :: rest) a W :=
 Kd.R_make kTm base 43 hgd hd 24 x y ho (n : Int) hx hy Try.underlying24 (.agg #[.int .i64 0, .int .i64 0]) 16 infoTm rfl (by decide) (by omega) (default : Tm) (okp := fun _ => False) (kTm_M.2 rfl) (fun _ hk => hk.elim) trivial (by omega) (by simp; omega) HB hbase (by simpa using h)
theorem appsRw {w0 W : World} {base : Nat} {s x : Operand} {xs ys : List Rw} {ok : Nat → Prop} (hgd : o.guard = none)
  (ho : o.op = .call { callee := .builtin .append, args := #[s, x], argTypes := #[27, 27] })
  (HS : Sl kRw W (a.eval x) ys) (HO : kRw.R 102 W base ok (a.eval s) xs) (hfresh : ∀ k, W.heap.size ≤ k → ok k) (HB : Below base w0 W) (hbase : base ≤ W.heap.size) (hl : xs.length + ys.length < 3518437208000)
  (h : ∀ v1 w1, kRw.R 102 w1 base ok v1 (xs ++ ys) → Below base w0 w1 → W.grownBy w1 (a.eval s).ownBlock → ((v1.ownBlock = (a.eval s).ownBlock) ∨ ∃ b, v1.ownBlock = some b ∧ W.heap.size ≤ b) → wpList Try.prog ops Q rest (a.put o.dst v1) w1) :
  wpList Try.prog ops Q (o :: rest) a W := by
 obtain ⟨A, c, hv, hc, hC⟩ := HS
 exact Kd.R_append_rows kRw (w0 := w0) base hgd s x 27 102 (.agg #[.int .i64 0, .int .i64 0, .int .i64 0, .int .i64 0, .int .i64 0]) 40 ho Try.underlying27 infoRw rfl (by decide) (by omega) _ xs ys A _ c ok (fun _ => False) rfl hv HO hC (fun _ _ hk => kRw_M.2 (kRw_K.1 hk)) (fun _ hk => hk.elim) hfresh HB hbase (by omega) h
theorem makeRw {w0 W : World} {base : Nat} {N : Tmp} {x y : Operand} (n : Nat) (hgd : o.guard = none) (hd : o.dst = some N) (ho : o.op = .makeSlice 27 x y) (hx : a.eval x = .int .i64 n) (hy : a.eval y = .int .i64 n) (hl : n < 7036874416000)
  (HB : Below base w0 W) (hbase : base ≤ W.heap.size) (h : ∀ v1 w1, kRw.R 102 w1 base okT v1 (List.replicate n default) → Below base w0 w1 → W.grownBy w1 none → (∃ b, v1.ownBlock = some b ∧ W.heap.size ≤ b) → wpList Try.prog ops Q rest (a.put o.dst v1) w1) :
  wpList Try.prog ops Q (o :: rest) a W :=
 Kd.R_make kRw base 102 hgd hd 27 x y ho (n : Int) hx hy Try.underlying27 (.agg #[.int .i64 0, .int .i64 0, .int .i64 0, .int .i64 0, .int .i64 0]) 40 infoRw rfl (by decide) (by omega) (default : Rw) (okp := fun _ => False) (kRw_M.2 rfl) (fun _ hk => hk.elim) trivial (by omega) (by simp; omega) HB hbase (by simpa using h)
end
theorem RetR.mk {α : Type} {d : Kd α} {e : Nat} {w w' : World} {xs : List α} {v : Value} (h : d.R e w' w.heap.size okT v xs) (hb : Below w.heap.size w w') : RetR d e w xs (.returned v) w' := ⟨v, rfl, h, hb⟩
end Go.Proofs.Ytkdendlgaaimbaa.X
namespace Go.Proofs.Ytkdendlgaaimbaa.X
open Go.RowKit Go.Proofs.YtkdendlgaaimbaaW.PrintWords
set_option linter.unusedVariables false
set_option linter.unusedSimpArgs false
set_option maxRecDepth 100000 in
set_option maxHeartbeats 400000 in
theorem spec_l6In (n lo hi : Int) (w : World) : Calls Try.prog 94 #[.int .i64 n, .int .i64 lo, .int .i64 hi] w fun e w' => e = .returned (.bool (decide (lo ≤ n) && decide (n ≤ hi))) ∧ w = w' := by
 have HB := Aside0.mk (Below.refl w.heap.size w)
 go_enter Try.func94, Try.ntmps94
 go_wp2
 all_goals (go_ret; exact ⟨ret_bool (by first | (simp [*]; done) | (simp [*]; omega)), rfl⟩)
set_option maxRecDepth 100000 in
set_option maxHeartbeats 400000 in
theorem impl_TimeOk (a b : Int) (w : World) : Calls Try.prog 91 #[.agg #[.int .i64 a, .int .i64 b]] w (RetV w (.bool (tOk ⟨a, b⟩))) := by
 have HB := Aside0.mk (Below.refl w.heap.size w)
 go_enter Try.func91, Try.ntmps91
 go_wp2
 all_goals (go_ret; exact RetV.mk (by simp [tOk, *] <;> omega) (by repeat (first | exact HB.out | apply below_alloc)))
set_option maxRecDepth 100000 in
set_option maxHeartbeats 400000 in
theorem spec_TimeOk (a b : Int) (w : World) : Calls Try.prog 29 #[.agg #[.int .i64 a, .int .i64 b]] w (RetV w (.bool (tOk ⟨a, b⟩))) := by
 have HB := Aside0.mk (Below.refl w.heap.size w)
 go_enter Try.func29, Try.ntmps29
 go_wp2_with (go_at_call 94; refine (spec_l6In _ _ _ _).mono ?_; rintro e w' ⟨rfl, rfl⟩)
 all_goals (go_ret; exact RetV.mk (by simp_all [tOk] <;> omega) (by repeat (first | exact HB.out | apply below_alloc)))
set_option maxRecDepth 100000 in
set_option maxHeartbeats 400000 in
theorem impl_below (a b c d : Int) (w : World) : Calls Try.prog 129 #[.agg #[.int .i64 a, .int .i64 b], .agg #[.int .i64 c, .int .i64 d]] w (RetV w (.bool (below ⟨a, b⟩ ⟨c, d⟩))) := by
 have HB := Aside0.mk (Below.refl w.heap.size w)
 go_enter Try.func129, Try.ntmps129
 go_wp2
 all_goals (go_ret; exact RetV.mk (by simp [below, *] <;> omega) (by repeat (first | exact HB.out | apply below_alloc)))
set_option maxRecDepth 100000 in
set_option maxHeartbeats 400000 in
theorem spec_TimeLess (a b c d : Int) (w : World) : Calls Try.prog 137 #[.agg #[.int .i64 a, .int .i64 b], .agg #[.int .i64 c, .int .i64 d]] w (RetV w (.bool (tLess ⟨a, b⟩ ⟨c, d⟩))) := by
 have HB := Aside0.mk (Below.refl w.heap.size w)
 go_enter Try.func137, Try.ntmps137
 go_wp2_with (first | (go_at_call 29; refine (spec_TimeOk _ _ _).mono ?_; rintro e w' ⟨rfl, hb⟩; replace HB := Aside0.mk (bthen (by repeat (first | exact HB.out | apply below_alloc)) hb); obtain ⟨hc, hf⟩ := bcell hb; have z0 : w.heap.size < w'.heap.size := (by have := hb.size; (try simp at this); omega); have z1 : w.heap.size + 1 < w'.heap.size := (by have := hb.size; (try simp at this); omega)))
 all_goals (go_ret; exact RetV.mk (by simp_all [tLess, below] <;> omega) (by repeat (first | exact HB.out | apply below_alloc)))
set_option maxRecDepth 100000 in
set_option maxHeartbeats 400000 in
theorem impl_TimeJoin (a b c d : Int) (w : World) : Calls Try.prog 166 #[.agg #[.int .i64 a, .int .i64 b], .agg #[.int .i64 c, .int .i64 d]] w (RetV w (.agg #[.int .i64 (tJoin ⟨a, b⟩ ⟨c, d⟩).f0, .int .i64 (tJoin ⟨a, b⟩ ⟨c, d⟩).f1])) := by
 have HB := Aside0.mk (Below.refl w.heap.size w)
 go_enter Try.func166, Try.ntmps166
 go_wp2_with (first | (go_at_call 91; refine (impl_TimeOk _ _ _).mono ?_; rintro e w' ⟨rfl, hb⟩; replace HB := Aside0.mk (bthen (by repeat (first | exact HB.out | apply below_alloc)) hb); obtain ⟨hc, hf⟩ := bcell hb; have z0 : w.heap.size < w'.heap.size := (by have := hb.size; (try simp at this); omega); have z1 : w.heap.size + 1 < w'.heap.size := (by have := hb.size; (try simp at this); omega); have z2 : w.heap.size + 1 + 1 < w'.heap.size := (by have := hb.size; (try simp at this); omega)))
 all_goals (refine bodyPost_ret (by simp [results, Try.results166, go_sem, *]; rfl) rfl (RetV.mk ?_ (by repeat (first | exact HB.out | apply below_alloc | refine below_set ?_ (by omega)))); (simp_all [tJoin, tmax] <;> omega))
set_option maxRecDepth 100000 in
set_option maxHeartbeats 400000 in
theorem spec_TimeJoin (a b c d : Int) (w : World) : Calls Try.prog 89 #[.agg #[.int .i64 a, .int .i64 b], .agg #[.int .i64 c, .int .i64 d]] w (RetV w (.agg #[.int .i64 (tJoin ⟨a, b⟩ ⟨c, d⟩).f0, .int .i64 (tJoin ⟨a, b⟩ ⟨c, d⟩).f1])) := by
 have HB := Aside0.mk (Below.refl w.heap.size w)
 go_enter Try.func89, Try.ntmps89
 go_wp2_with (first | (go_at_call 29; refine (spec_TimeOk _ _ _).mono ?_; rintro e w' ⟨rfl, hb⟩; replace HB := Aside0.mk (bthen (by repeat (first | exact HB.out | apply below_alloc)) hb); obtain ⟨hc, hf⟩ := bcell hb; have z0 : w.heap.size < w'.heap.size := (by have := hb.size; (try simp at this); omega); have z1 : w.heap.size + 1 < w'.heap.size := (by have := hb.size; (try simp at this); omega); have z2 : w.heap.size + 1 + 1 < w'.heap.size := (by have := hb.size; (try simp at this); omega)))
 all_goals (refine bodyPost_ret (by simp [results, Try.results89, go_sem, *]; rfl) rfl (RetV.mk ?_ (by repeat (first | exact HB.out | apply below_alloc | refine below_set ?_ (by omega)))); (simp_all [tJoin, tmax] <;> omega))
set_option maxRecDepth 100000 in
set_option maxHeartbeats 400000 in
theorem spec_TimeMeet (a b c d : Int) (w : World) : Calls Try.prog 144 #[.agg #[.int .i64 a, .int .i64 b], .agg #[.int .i64 c, .int .i64 d]] w (RetV w (.agg #[.int .i64 (tMeet ⟨a, b⟩ ⟨c, d⟩).f0, .int .i64 (tMeet ⟨a, b⟩ ⟨c, d⟩).f1])) := by
 have HB := Aside0.mk (Below.refl w.heap.size w)
 go_enter Try.func144, Try.ntmps144
 go_wp2_with (first | (go_at_call 29; refine (spec_TimeOk _ _ _).mono ?_; rintro e w' ⟨rfl, hb⟩; replace HB := Aside0.mk (bthen (by repeat (first | exact HB.out | apply below_alloc)) hb); obtain ⟨hc, hf⟩ := bcell hb; have z0 : w.heap.size < w'.heap.size := (by have := hb.size; (try simp at this); omega); have z1 : w.heap.size + 1 < w'.heap.size := (by have := hb.size; (try simp at this); omega); have z2 : w.heap.size + 1 + 1 < w'.heap.size := (by have := hb.size; (try simp at this); omega)))
 all_goals (refine bodyPost_ret (by simp [results, Try.results144, go_sem, *]; rfl) rfl (RetV.mk ?_ (by repeat (first | exact HB.out | apply below_alloc | refine below_set ?_ (by omega)))); (simp_all [tMeet, tmin] <;> omega))
set_option maxRecDepth 100000 in
set_option maxHeartbeats 400000 in
theorem impl_TimeMeet (a b c d : Int) (w : World) : Calls Try.prog 167 #[.agg #[.int .i64 a, .int .i64 b], .agg #[.int .i64 c, .int .i64 d]] w (RetV w (.agg #[.int .i64 (tMeet ⟨a, b⟩ ⟨c, d⟩).f0, .int .i64 (tMeet ⟨a, b⟩ ⟨c, d⟩).f1])) := by
 have HB := Aside0.mk (Below.refl w.heap.size w)
 go_enter Try.func167, Try.ntmps167
 go_wp2_with (first | (go_at_call 91; refine (impl_TimeOk _ _ _).mono ?_; rintro e w' ⟨rfl, hb⟩; replace HB := Aside0.mk (bthen (by repeat (first | exact HB.out | apply below_alloc)) hb); obtain ⟨hc, hf⟩ := bcell hb; have z0 : w.heap.size < w'.heap.size := (by have := hb.size; (try simp at this); omega); have z1 : w.heap.size + 1 < w'.heap.size := (by have := hb.size; (try simp at this); omega); have z2 : w.heap.size + 1 + 1 < w'.heap.size := (by have := hb.size; (try simp at this); omega)))
 all_goals (refine bodyPost_ret (by simp [results, Try.results167, go_sem, *]; rfl) rfl (RetV.mk ?_ (by repeat (first | exact HB.out | apply below_alloc | refine below_set ?_ (by omega)))); (simp_all [tMeet, tmin] <;> omega))
set_option maxRecDepth 100000 in
set_option maxHeartbeats 400000 in
theorem impl_beyond (v : Value) (l : List Tm) (c d : Int) (w : World) (h : Sl kTm w v l) : Calls Try.prog 72 #[v, .agg #[.int .i64 c, .int .i64 d]] w (RetV w (.bool (beyond l ⟨c, d⟩))) := by
 obtain ⟨A, c_, rfl, HC, hr⟩ := h
 have hm := Kd.C_max hr
 have HR := Aside0.mk hr
 clear hr
 have HB := Aside0.mk (Below.refl w.heap.size w)
 go_enter Try.func72, Try.ntmps72
 go_wp2
 go_loopw [9] (fun i wr => ∃ k : Nat, k ≤ l.length ∧ i = .int .i64 k ∧ Aside0 ((l.take k).any (fun s => below s ⟨c, d⟩) = false) ∧ wr.cell? ⟨w.heap.size, 0, none⟩ = some (.int .i64 c) ∧ wr.cell? ⟨w.heap.size, 1, none⟩ = some (.int .i64 d) ∧ w.heap.size < wr.heap.size ∧ Aside0 (Below w.heap.size w wr)) (fun i _ => l.length - (intOf i).toNat)
 case atStart => exact ⟨0, Nat.zero_le _, rfl, ⟨by simp⟩, by simp, by simp, by simp, ⟨by repeat (first | exact HB.out | apply below_alloc)⟩⟩
 case round =>
  obtain ⟨k, hk, rfl, HA, g0, g1, z, HB⟩ := hrel
  by_cases hlt : k < l.length
  ·obtain ⟨ad, x, e, HX, h0, h1⟩ := rdTm HR.out HB.out hlt
   cases e
   go_wp2_with (first | (go_at_call 129; refine (impl_below _ _ _ _ _).mono ?_; rintro e w' ⟨rfl, hb⟩; replace HB := Aside0.mk (bthen (by repeat (first | exact HB.out | apply below_alloc)) hb); obtain ⟨hc, hf⟩ := bcell hb; have z0 : w.heap.size < w'.heap.size := (by have := hb.size; (try simp at this); omega)))
   all_goals first
    | (go_roundw
       case rel => exact ⟨k + 1, by omega, by go_num, ⟨any_take_succ HA.out HX.out (by simp_all)⟩, pw_cell_below (bthen (below_alloc (Below.refl _ _) _) hb) g0, pw_cell_below (bthen (below_alloc (Below.refl _ _) _) hb) g1, by omega, HB⟩
       case measure => simp [intOf]; omega)
    | (go_ret; exact RetV.mk (by rw [beyond, any_hit HX.out (by simp_all)]; rfl) HB.out)
  ·go_wp2
   go_ret
   exact RetV.mk (by rw [beyond, any_done HA.out hlt]; rfl) HB.out
set_option maxRecDepth 100000 in
set_option maxHeartbeats 1000000 in
theorem spec_FrontOk (v : Value) (l : List Tm) (w : World) (h : Sl kTm w v l) : Calls Try.prog 87 #[v] w (RetV w (.bool (frontOk l))) := by
 obtain ⟨A, c_, rfl, HC, hr⟩ := h
 have hm := Kd.C_max hr
 have HR := Aside0.mk hr
 clear hr
 have HB := Aside0.mk (Below.refl w.heap.size w)
 go_enter Try.func87, Try.ntmps87
 go_wp2
 go_loopw [3] (fun i wr => ∃ k : Nat, k ≤ l.length ∧ i = .int .i64 k ∧ Aside0 (frontOk (l.take k) = true) ∧ Aside0 (Below w.heap.size w wr)) (fun i _ => l.length - (intOf i).toNat)
 case atStart => exact ⟨0, Nat.zero_le _, rfl, ⟨by simp [frontOk]⟩, HB⟩
 case round =>
  obtain ⟨k, hk, rfl, HA, HB⟩ := hrel
  by_cases hlt : k < l.length
  ·obtain ⟨ad, x, e, HX, h0, h1⟩ := rdTm HR.out HB.out hlt
   cases e
   have q0 := fun u => Ext.cell h0 u
   have q1 := fun u => Ext.cell h1 u
   by_cases hk0 : 0 < k
   ·obtain ⟨j, rfl⟩ : ∃ j, k = j + 1 := ⟨k - 1, by omega⟩
    obtain ⟨ad', y, e, HY, h2, h3⟩ := rdTm HR.out HB.out (k := j) (by omega)
    cases e
    have q2 := fun u => Ext.cell h2 u
    have q3 := fun u => Ext.cell h3 u
    have e1 : IntKind.i64.wrap (j : Int) = j := IntWalk.i64_in _ (by omega)
    have e2 : (j : Int) < (l.length : Int) := by omega
    have e3 : j < l.length := by omega
    have e4 : (0 : Int) ≤ (j : Int) + 1 := by omega
    go_wp2
    refine wp_region_ext (by kernel_rfl) (by kernel_rfl) ?_
    repeat (any_goals (first | go_big_quiet_step ((go_at_call 29; exact Calls.extV (spec_TimeOk _ _ _))) | quiet_step ((go_at_call 29; exact Calls.extV (spec_TimeOk _ _ _))) | (refine wpQuiet_step (fun K hK => ?_); go_simp; split <;> (refine hK _ ?_; clear hK K))))
    all_goals (refine wpQuiet_nil ?_; intro u)
    all_goals have HB2 := Aside0.mk (bthen HB.out u.bel)
    all_goals go_wp2
    all_goals first
     | (go_roundw
        case rel => exact ⟨j + 1 + 1, by omega, by go_num, ⟨by rw [front_next HA.out HY.out HX.out]; simp [step2, *]⟩, HB2⟩
        case measure => simp [intOf]; omega)
     | (go_ret; exact RetV.mk (by rw [front_false (j + 1 + 1) (by rw [front_next HA.out HY.out HX.out]; simp [step2, *] <;> omega)]; rfl) HB2.out)
   ·go_wp2
    refine wp_region_ext (by kernel_rfl) (by kernel_rfl) ?_
    repeat (any_goals (first | go_big_quiet_step ((go_at_call 29; exact Calls.extV (spec_TimeOk _ _ _))) | quiet_step ((go_at_call 29; exact Calls.extV (spec_TimeOk _ _ _))) | (refine wpQuiet_step (fun K hK => ?_); go_simp; split <;> (refine hK _ ?_; clear hK K))))
    all_goals (refine wpQuiet_nil ?_; intro u)
    all_goals have HB2 := Aside0.mk (bthen HB.out u.bel)
    all_goals go_wp2
    all_goals first
     | (go_roundw
        case rel => exact ⟨k + 1, by omega, by go_num, ⟨by rw [front_first HX.out hk0]; simp [*]⟩, HB2⟩
        case measure => simp [intOf]; omega)
     | (go_ret; exact RetV.mk (by rw [front_false (k + 1) (by rw [front_first HX.out hk0]; simp [*])]; rfl) HB2.out)
  ·go_wp2
   go_ret
   exact RetV.mk (by rw [front_done HA.out hlt]; rfl) HB.out
set_option maxRecDepth 100000 in
set_option maxHeartbeats 1000000 in
theorem impl_FrontOk (v : Value) (l : List Tm) (w : World) (h : Sl kTm w v l) : Calls Try.prog 76 #[v] w (RetV w (.bool (frontOk l))) := by
 obtain ⟨A, c_, rfl, HC, hr⟩ := h
 have hm := Kd.C_max hr
 have HR := Aside0.mk hr
 clear hr
 have HB := Aside0.mk (Below.refl w.heap.size w)
 go_enter Try.func76, Try.ntmps76
 go_wp2
 go_loopw [7] (fun i wr => ∃ k : Nat, k ≤ l.length ∧ i = .int .i64 k ∧ Aside0 (frontOk (l.take k) = true) ∧ Aside0 (Below w.heap.size w wr)) (fun i _ => l.length - (intOf i).toNat)
 case atStart => exact ⟨0, Nat.zero_le _, rfl, ⟨by simp [frontOk]⟩, HB⟩
 case round =>
  obtain ⟨k, hk, rfl, HA, HB⟩ := hrel
  by_cases hlt : k < l.length
  ·obtain ⟨ad, x, e, HX, h0, h1⟩ := rdTm HR.out HB.out hlt
   cases e
   by_cases hk0 : 0 < k
   ·obtain ⟨j, rfl⟩ : ∃ j, k = j + 1 := ⟨k - 1, by omega⟩
    obtain ⟨ad', y, e, HY, h2, h3⟩ := rdTm HR.out HB.out (k := j) (by omega)
    cases e
    have e1 : IntKind.i64.wrap (j : Int) = j := IntWalk.i64_in _ (by omega)
    have e2 : (j : Int) < (l.length : Int) := by omega
    have e3 : j < l.length := by omega
    have e4 : (0 : Int) ≤ (j : Int) + 1 := by omega
    go_wp2
    refine name_world fun W hW => ?_
    have hb : Below wr.heap.size wr W := hW ▸ below_alloc (Below.refl _ _) _
    have b0 : ∀ u : Ext W, u.w'.cell? ⟨wr.heap.size, 0, none⟩ = some (.int .i64 x.f0) := Ext.cell (by rw [hW]; simp)
    have b1 : ∀ u : Ext W, u.w'.cell? ⟨wr.heap.size, 1, none⟩ = some (.int .i64 x.f1) := Ext.cell (by rw [hW]; simp)
    have q2 := fun u => Ext.cell (pw_cell_below hb h2) u
    have q3 := fun u => Ext.cell (pw_cell_below hb h3) u
    clear hW
    refine wp_region_ext (by kernel_rfl) (by kernel_rfl) ?_
    repeat (any_goals (first | go_big_quiet_step ((go_at_call 91; exact Calls.extV (impl_TimeOk _ _ _))) | quiet_step ((go_at_call 91; exact Calls.extV (impl_TimeOk _ _ _))) | (refine wpQuiet_step (fun K hK => ?_); go_simp; split <;> (refine hK _ ?_; clear hK K))))
    all_goals (refine wpQuiet_nil ?_; intro u)
    all_goals have HB2 := Aside0.mk (bthen HB.out (bthen hb u.bel))
    all_goals go_wp2
    all_goals first
     | (go_roundw
        case rel => exact ⟨j + 1 + 1, by omega, by go_num, ⟨by rw [front_next HA.out HY.out HX.out]; simp [step2, *]⟩, HB2⟩
        case measure => simp [intOf]; omega)
     | (go_ret; exact RetV.mk (by rw [front_false (j + 1 + 1) (by rw [front_next HA.out HY.out HX.out]; simp [step2, *] <;> omega)]; rfl) HB2.out)
   ·go_wp2
    refine name_world fun W hW => ?_
    have hb : Below wr.heap.size wr W := hW ▸ below_alloc (Below.refl _ _) _
    have b0 : ∀ u : Ext W, u.w'.cell? ⟨wr.heap.size, 0, none⟩ = some (.int .i64 x.f0) := Ext.cell (by rw [hW]; simp)
    have b1 : ∀ u : Ext W, u.w'.cell? ⟨wr.heap.size, 1, none⟩ = some (.int .i64 x.f1) := Ext.cell (by rw [hW]; simp)
    clear hW
    refine wp_region_ext (by kernel_rfl) (by kernel_rfl) ?_
    repeat (any_goals (first | go_big_quiet_step ((go_at_call 91; exact Calls.extV (impl_TimeOk _ _ _))) | quiet_step ((go_at_call 91; exact Calls.extV (impl_TimeOk _ _ _))) | (refine wpQuiet_step (fun K hK => ?_); go_simp; split <;> (refine hK _ ?_; clear hK K))))
    all_goals (refine wpQuiet_nil ?_; intro u)
    all_goals have HB2 := Aside0.mk (bthen HB.out (bthen hb u.bel))
    all_goals go_wp2
    all_goals first
     | (go_roundw
        case rel => exact ⟨k + 1, by omega, by go_num, ⟨by rw [front_first HX.out hk0]; simp [*]⟩, HB2⟩
        case measure => simp [intOf]; omega)
     | (go_ret; exact RetV.mk (by rw [front_false (k + 1) (by rw [front_first HX.out hk0]; simp [*])]; rfl) HB2.out)
  ·go_wp2
   go_ret
   exact RetV.mk (by rw [front_done HA.out hlt]; rfl) HB.out
end Go.Proofs.Ytkdendlgaaimbaa.X
namespace Go.Proofs.Ytkdendlgaaimbaa.X
open Go.RowKit Go.Proofs.YtkdendlgaaimbaaW.PrintWords
set_option linter.unusedVariables false
set_option linter.unusedSimpArgs false
set_option maxRecDepth 100000 in
set_option maxHeartbeats 1000000 in
theorem spec_FrontCovers (v : Value) (l : List Tm) (c d : Int) (w : World) (h : Sl kTm w v l) : Calls Try.prog 83 #[v, .agg #[.int .i64 c, .int .i64 d]] w (RetV w (.bool (covers l ⟨c, d⟩))) := by
 have HS := Aside0.mk h
 obtain ⟨A, c_, rfl, HC, hr⟩ := h
 have hm := Kd.C_max hr
 have HR := Aside0.mk hr
 clear hr
 cases hfo : frontOk l
 ·
  have HB := Aside0.mk (Below.refl w.heap.size w)
  go_enter Try.func83, Try.ntmps83
  go_wp2_with (go_at_call 87; refine (spec_FrontOk _ l _ (by exact Sl.below HS.out (below_alloc (Below.refl _ _) _))).mono ?_; rintro e w' ⟨rfl, hb⟩; replace HB := Aside0.mk (bthen (below_alloc HB.out _) hb))
  go_ret
  exact RetV.mk (by simp [covers, hfo]) HB.out
 ·
  have HB := Aside0.mk (Below.refl w.heap.size w)
  go_enter Try.func83, Try.ntmps83
  go_wp2_with (go_at_call 87; refine (spec_FrontOk _ l _ (by exact Sl.below HS.out (below_alloc (Below.refl _ _) _))).mono ?_; rintro e w' ⟨rfl, hb⟩; replace HB := Aside0.mk (bthen (below_alloc HB.out _) hb); have g0 : w'.cell? ⟨w.heap.size, 0, none⟩ = some (.int .i64 c) := pw_cell_below hb (by simp); have g1 : w'.cell? ⟨w.heap.size, 1, none⟩ = some (.int .i64 d) := pw_cell_below hb (by simp))
  go_loopw [5] (fun i wr => ∃ k : Nat, k ≤ l.length ∧ i = .int .i64 k ∧ Aside0 ((l.take k).any (fun s => tLess s ⟨c, d⟩) = false) ∧ wr.cell? ⟨w.heap.size, 0, none⟩ = some (.int .i64 c) ∧ wr.cell? ⟨w.heap.size, 1, none⟩ = some (.int .i64 d) ∧ Aside0 (Below w.heap.size w wr)) (fun i _ => l.length - (intOf i).toNat)
  case atStart => exact ⟨0, Nat.zero_le _, rfl, ⟨by simp⟩, g0, g1, HB⟩
  case round =>
   obtain ⟨k, hk, rfl, HA, g0, g1, HB⟩ := hrel
   by_cases hlt : k < l.length
   ·obtain ⟨ad, x, e, HX, h0, h1⟩ := rdTm HR.out HB.out hlt
    cases e
    have q0 := fun u => Ext.cell h0 u
    have q1 := fun u => Ext.cell h1 u
    have q2 := fun u => Ext.cell g0 u
    have q3 := fun u => Ext.cell g1 u
    go_wp2
    refine wp_region_ext (by kernel_rfl) (by kernel_rfl) ?_
    repeat (any_goals (first | go_big_quiet_step ((go_at_call 137; exact Calls.extV (spec_TimeLess _ _ _ _ _))) | quiet_step ((go_at_call 137; exact Calls.extV (spec_TimeLess _ _ _ _ _))) | (refine wpQuiet_step (fun K hK => ?_); go_simp; split <;> (refine hK _ ?_; clear hK K))))
    all_goals (refine wpQuiet_nil ?_; intro u)
    all_goals have HB2 := Aside0.mk (bthen HB.out u.bel)
    all_goals go_wp2
    all_goals first
     | (go_roundw
        case rel => exact ⟨k + 1, by omega, by go_num, ⟨any_take_succ HA.out HX.out (by simp_all)⟩, q2 u, q3 u, HB2⟩
        case measure => simp [intOf]; omega)
     | (go_ret; exact RetV.mk (by rw [covers, any_hit HX.out (by simp_all), hfo]; rfl) HB2.out)
   ·go_wp2
    go_ret
    exact RetV.mk (by rw [covers, any_done HA.out hlt, hfo]; rfl) HB.out
end Go.Proofs.Ytkdendlgaaimbaa.X
namespace Go.Proofs.Ytkdendlgaaimbaa.X
open Go.RowKit Go.Proofs.YtkdendlgaaimbaaW.PrintWords
set_option linter.unusedVariables false
set_option linter.unusedSimpArgs false
set_option maxRecDepth 100000 in
set_option maxHeartbeats 1000000 in
theorem impl_RowsOk (v : Value) (l : List Rw) (w : World) (h : Sl kRw w v l) : Calls Try.prog 97 #[v] w (RetV w (.bool (rowsOk l))) := by
 obtain ⟨A, c_, rfl, HC, hr⟩ := h
 have hm := Kd.C_max hr
 have HR := Aside0.mk hr
 clear hr
 have HB := Aside0.mk (Below.refl w.heap.size w)
 go_enter Try.func97, Try.ntmps97
 go_wp2
 go_loopw [7] (fun i wr => ∃ k : Nat, k ≤ l.length ∧ i = .int .i64 k ∧ Aside0 ((l.take k).all rowOk = true) ∧ Aside0 (Below w.heap.size w wr)) (fun i _ => l.length - (intOf i).toNat)
 case atStart => exact ⟨0, Nat.zero_le _, rfl, ⟨by simp⟩, HB⟩
 case round =>
  obtain ⟨k, hk, rfl, HA, HB⟩ := hrel
  by_cases hlt : k < l.length
  ·obtain ⟨ad, x, e, HX, h0, h1, h2, h3, h4⟩ := rdRw HR.out HB.out hlt
   cases e
   go_wp2_with (go_at_call 91; refine (impl_TimeOk _ _ _).mono ?_; rintro e w' ⟨rfl, hb⟩; replace HB := Aside0.mk (bthen (below_alloc HB.out _) hb); obtain ⟨hc, hf⟩ := bcell hb)
   all_goals first
    | (go_roundw
       case rel => exact ⟨k + 1, by omega, by go_num, ⟨all_take_succ HA.out HX.out (by simp [rowOk, *])⟩, HB⟩
       case measure => simp [intOf]; omega)
    | (go_ret; exact RetV.mk (by rw [rowsOk, all_bad HX.out (by simp [rowOk, *] <;> omega)]; rfl) (by repeat (first | exact HB.out | apply below_alloc)))
  ·go_wp2
   go_ret
   exact RetV.mk (by rw [rowsOk, all_done HA.out hlt]; simp; omega) HB.out
set_option maxRecDepth 100000 in
set_option maxHeartbeats 1000000 in
theorem impl_BatchOk (v : Value) (l : List Rw) (w : World) (h : Sl kRw w v l) : Calls Try.prog 37 #[v] w (RetV w (.bool (batchOk l))) := by
 have HS := Aside0.mk h
 obtain ⟨A, c_, rfl, HC, hr⟩ := h
 have hm := Kd.C_max hr
 have HR := Aside0.mk hr
 clear hr
 have HB := Aside0.mk (Below.refl w.heap.size w)
 go_enter Try.func37, Try.ntmps37
 go_wp2
 go_loopw [7] (fun i wr => ∃ k : Nat, k ≤ l.length ∧ i = .int .i64 k ∧ Aside0 (asc (l.take k) = true) ∧ Aside0 (Below w.heap.size w wr)) (fun i _ => l.length - (intOf i).toNat)
 case atStart => exact ⟨0, Nat.zero_le _, rfl, ⟨by simp [asc]⟩, HB⟩
 case round =>
  obtain ⟨k, hk, rfl, HA, HB⟩ := hrel
  by_cases hlt : k < l.length
  ·obtain ⟨ad, x, e, HX, h0, h1, h2, h3, h4⟩ := rdRw HR.out HB.out hlt
   cases e
   by_cases hk0 : 0 < k
   ·obtain ⟨j, rfl⟩ : ∃ j, k = j + 1 := ⟨k - 1, by omega⟩
    obtain ⟨ad', y, e, HY, i0, i1, i2, i3, i4⟩ := rdRw HR.out HB.out (k := j) (by omega)
    cases e
    have e1 : IntKind.i64.wrap (j : Int) = j := IntWalk.i64_in _ (by omega)
    have e2 : (j : Int) < (l.length : Int) := by omega
    have e3 : j < l.length := by omega
    have e4 : (0 : Int) ≤ (j : Int) + 1 := by omega
    go_wp2
    refine name_world fun W hW => ?_
    have hb : Below wr.heap.size wr W := hW ▸ below_alloc (Below.refl _ _) _
    have b0 : ∀ u : Ext W, u.w'.cell? ⟨wr.heap.size, 0, none⟩ = some (.int .i64 x.f0) := Ext.cell (by rw [hW]; simp)
    have b1 : ∀ u : Ext W, u.w'.cell? ⟨wr.heap.size, 1, none⟩ = some (.int .i64 x.f1) := Ext.cell (by rw [hW]; simp)
    have b2 : ∀ u : Ext W, u.w'.cell? ⟨wr.heap.size, 2, none⟩ = some (.int .i64 x.f2.f0) := Ext.cell (by rw [hW]; simp)
    have b3 : ∀ u : Ext W, u.w'.cell? ⟨wr.heap.size, 3, none⟩ = some (.int .i64 x.f2.f1) := Ext.cell (by rw [hW]; simp)
    have b4 : ∀ u : Ext W, u.w'.cell? ⟨wr.heap.size, 4, none⟩ = some (.int .i64 x.f3) := Ext.cell (by rw [hW]; simp)
    have q0 := fun u => Ext.cell (pw_cell_below hb i0) u
    have q1 := fun u => Ext.cell (pw_cell_below hb i1) u
    have q2 := fun u => Ext.cell (pw_cell_below hb i2) u
    have q3 := fun u => Ext.cell (pw_cell_below hb i3) u
    have q4 := fun u => Ext.cell (pw_cell_below hb i4) u
    clear hW
    refine wp_region_ext (by kernel_rfl) (by kernel_rfl) ?_
    repeat (any_goals (first | go_big_quiet_step ((go_at_call 98; exact Calls.extV (impl_rowAhead y x _))) | quiet_step ((go_at_call 98; exact Calls.extV (impl_rowAhead y x _))) | (refine wpQuiet_step (fun K hK => ?_); go_simp; split <;> (refine hK _ ?_; clear hK K))))
    all_goals (refine wpQuiet_nil ?_; intro u)
    all_goals have HB2 := Aside0.mk (bthen HB.out (bthen hb u.bel))
    all_goals go_wp2
    all_goals first
     | (go_roundw
        case rel => exact ⟨j + 1 + 1, by omega, by go_num, ⟨by rw [asc_next HA.out HY.out HX.out]; simp_all⟩, HB2⟩
        case measure => simp [intOf]; omega)
     | (go_ret; exact RetV.mk (by rw [batchOk, asc_false (j + 1 + 1) (by rw [asc_next HA.out HY.out HX.out]; simp_all)]; rfl) HB2.out)
   ·go_wp2
    refine name_world fun W hW => ?_
    have hb : Below wr.heap.size wr W := hW ▸ below_alloc (Below.refl _ _) _
    have b4 : ∀ u : Ext W, u.w'.cell? ⟨wr.heap.size, 4, none⟩ = some (.int .i64 x.f3) := Ext.cell (by rw [hW]; simp)
    clear hW
    refine wp_region_ext (by kernel_rfl) (by kernel_rfl) ?_
    repeat (any_goals (first | go_big_quiet_step (fail) | quiet_step (fail) | (refine wpQuiet_step (fun K hK => ?_); go_simp; split <;> (refine hK _ ?_; clear hK K))))
    all_goals (refine wpQuiet_nil ?_; intro u)
    all_goals have HB2 := Aside0.mk (bthen HB.out (bthen hb u.bel))
    all_goals go_wp2
    all_goals first
     | (go_roundw
        case rel => exact ⟨k + 1, by omega, by go_num, ⟨by rw [asc_first HX.out hk0]; simp_all⟩, HB2⟩
        case measure => simp [intOf]; omega)
     | (go_ret; exact RetV.mk (by rw [batchOk, asc_false (k + 1) (by rw [asc_first HX.out hk0]; simp_all)]; rfl) HB2.out)
  ·go_wp2_with (go_at_call 97; refine (impl_RowsOk _ l _ (by exact Sl.below HS.out HB.out)).mono ?_; rintro e w' ⟨rfl, hb⟩)
   go_ret
   exact RetV.mk (by rw [batchOk, asc_done HA.out hlt]; rfl) (bthen HB.out hb)
set_option maxRecDepth 100000 in
set_option maxHeartbeats 1000000 in
theorem spec_l2Row (x : Rw) (w : World) : Calls Try.prog 173 #[.agg #[.int .i64 x.f0, .int .i64 x.f1, .int .i64 x.f2.f0, .int .i64 x.f2.f1, .int .i64 x.f3]] w (RetV w (.bool (rowOk x))) := by
 have HB := Aside0.mk (Below.refl w.heap.size w)
 go_enter Try.func173, Try.ntmps173
 go_wp2_with (first | (go_at_call 94; refine (spec_l6In _ _ _ _).mono ?_; rintro e w' ⟨rfl, rfl⟩) | (go_at_call 29; refine (spec_TimeOk _ _ _).mono ?_; rintro e w' ⟨rfl, hb⟩; replace HB := Aside0.mk (bthen (below_alloc HB.out _) hb); obtain ⟨hc, hf⟩ := bcell hb))
 all_goals (go_ret; refine RetV.mk (vbool ?_) (by repeat (first | exact HB.out | apply below_alloc)); (first | (simp_all [rowOk]; done) | (simp_all [rowOk]; omega) | (simp_all [rowOk]; intros; omega)))
set_option maxRecDepth 100000 in
set_option maxHeartbeats 1000000 in
theorem spec_l2Comp (a b : Rw) (w : World) : Calls Try.prog 136 #[.agg #[.int .i64 a.f0, .int .i64 a.f1, .int .i64 a.f2.f0, .int .i64 a.f2.f1, .int .i64 a.f3], .agg #[.int .i64 b.f0, .int .i64 b.f1, .int .i64 b.f2.f0, .int .i64 b.f2.f1, .int .i64 b.f3]] w (RetV w (.int .i64 (comp a b))) := by
 rw [comp_lexi]
 obtain ⟨xs, hxs⟩ : ∃ xs, xs = [a.f0, a.f1, a.f2.f0, a.f2.f1] := ⟨_, rfl⟩
 obtain ⟨ys, hys⟩ : ∃ ys, ys = [b.f0, b.f1, b.f2.f0, b.f2.f1] := ⟨_, rfl⟩
 rw [← hxs, ← hys]
 have HXS := Lib.hid hxs
 have HYS := Lib.hid hys
 clear hxs hys
 have HB := Aside0.mk (Below.refl w.heap.size w)
 go_enter Try.func136, Try.ntmps136
 go_wp2
 refine name_world fun W hW => ?_
 have hb : Below w.heap.size w W := hW ▸ (by repeat (first | exact Below.refl _ _ | apply below_alloc))
 have HX := Aside0.mk (show kI.C W (some ⟨w.heap.size + 1 + 1, 0, none⟩) 4 [a.f0, a.f1, a.f2.f0, a.f2.f1] from (by rw [hW]; exact Kd.C_alloc (by simpa using litI ((w.alloc _).alloc _) [a.f0, a.f1, a.f2.f0, a.f2.f1] 3 (by simp)) _))
 have HY := Aside0.mk (show kI.C W (some ⟨w.heap.size + 1 + 1 + 1, 0, none⟩) 4 [b.f0, b.f1, b.f2.f0, b.f2.f1] from (by rw [hW]; simpa using litI (((w.alloc _).alloc _).alloc _) [b.f0, b.f1, b.f2.f0, b.f2.f1] 3 (by simp)))
 rw [← HXS.out] at HX
 rw [← HYS.out] at HY
 have HLX := Lib.hid (show xs.length = 4 by rw [HXS.out]; rfl)
 have HLY := Lib.hid (show ys.length = 4 by rw [HYS.out]; rfl)
 clear hW HXS HYS
 replace HB := Aside0.mk hb
 clear hb
 go_loopw [7] (fun i wr => ∃ k : Nat, k ≤ 4 ∧ i = .int .i64 k ∧ Aside0 (lexi xs ys = lexi (xs.drop k) (ys.drop k)) ∧ Aside0 (Below W.heap.size W wr)) (fun i _ => 4 - (intOf i).toNat)
 case atStart => exact ⟨0, Nat.zero_le _, rfl, ⟨rfl⟩, ⟨Below.refl _ _⟩⟩
 case round =>
  obtain ⟨k, hk, rfl, HA, HB1⟩ := hrel
  by_cases hlt : k < 4
  ·obtain ⟨ad, x, e, HX1, h0⟩ := rdI (by rw [HLX.out]; exact HX.out) HB1.out (k := k) (by rw [HLX.out]; exact hlt)
   cases e
   obtain ⟨ad, y, e, HY1, h1⟩ := rdI (by rw [HLY.out]; exact HY.out) HB1.out (k := k) (by rw [HLY.out]; exact hlt)
   cases e
   rw [add_plain] at h0 h1
   have q0 := fun u => Ext.cell h0 u
   have q1 := fun u => Ext.cell h1 u
   have HA2 := Aside0.mk (show lexi xs ys = (if x < y then -1 else if x > y then 1 else lexi (xs.drop (k + 1)) (ys.drop (k + 1))) from (by rw [HA.out, drop_cons HX1.out, drop_cons HY1.out]; rfl))
   by_cases c1 : x < y
   ·go_wp2
    refine wp_region_ext (by kernel_rfl) (by kernel_rfl) ?_
    repeat (any_goals (first | go_big_quiet_step (fail) | quiet_step (fail) | (refine wpQuiet_step (fun K hK => ?_); go_simp; split <;> (refine hK _ ?_; clear hK K))))
    all_goals (refine wpQuiet_nil ?_; intro u)
    all_goals go_wp2
    go_ret
    exact RetV.mk (by rw [HA2.out, if_pos c1]; rfl) (bthen HB.out (bthen HB1.out u.bel))
   ·go_wp2
    refine wp_region_ext (by kernel_rfl) (by kernel_rfl) ?_
    repeat (any_goals (first | go_big_quiet_step (fail) | quiet_step (fail) | (refine wpQuiet_step (fun K hK => ?_); go_simp; split <;> (refine hK _ ?_; clear hK K))))
    all_goals (refine wpQuiet_nil ?_; intro u)
    all_goals go_wp2
    have HB2 := Aside0.mk (bthen HB1.out u.bel)
    replace q0 := q0 u
    replace q1 := q1 u
    have p0 := fun u => Ext.cell q0 u
    have p1 := fun u => Ext.cell q1 u
    clear h0 h1
    by_cases c2 : y < x
    ·
     refine wp_region_ext (by kernel_rfl) (by kernel_rfl) ?_
     repeat (any_goals (first | go_big_quiet_step (fail) | quiet_step (fail) | (refine wpQuiet_step (fun K hK => ?_); go_simp; split <;> (refine hK _ ?_; clear hK K))))
     all_goals (refine wpQuiet_nil ?_; intro u2)
     all_goals go_wp2
     go_ret
     exact RetV.mk (by rw [HA2.out, if_neg (by omega), if_pos c2]; rfl) (bthen HB.out (bthen HB2.out u2.bel))
    ·
     refine wp_region_ext (by kernel_rfl) (by kernel_rfl) ?_
     repeat (any_goals (first | go_big_quiet_step (fail) | quiet_step (fail) | (refine wpQuiet_step (fun K hK => ?_); go_simp; split <;> (refine hK _ ?_; clear hK K))))
     all_goals (refine wpQuiet_nil ?_; intro u2)
     all_goals go_wp2
     go_roundw
     case rel => exact ⟨k + 1, by omega, by go_num, ⟨by rw [HA2.out, if_neg (by omega), if_neg (by omega)]⟩, ⟨bthen HB2.out u2.bel⟩⟩
     case measure => simp [intOf]; omega
  ·go_wp2
   go_ret
   exact RetV.mk (by show Value.int _ _ = _; rw [HA.out, List.drop_of_length_le (by rw [HLX.out]; omega)]; rfl) (bthen HB.out HB1.out)
end Go.Proofs.Ytkdendlgaaimbaa.X
namespace Go.Proofs.Ytkdendlgaaimbaa.X
open Go.RowKit Go.Proofs.YtkdendlgaaimbaaW.PrintWords
set_option linter.unusedVariables false
set_option linter.unusedSimpArgs false
set_option maxRecDepth 100000 in
set_option maxHeartbeats 1000000 in
theorem spec_RowsOk (v : Value) (l : List Rw) (w : World) (h : Sl kRw w v l) : Calls Try.prog 135 #[v] w (RetV w (.bool (rowsOk l))) := by
 obtain ⟨A, c_, rfl, HC, hr⟩ := h
 have hm := Kd.C_max hr
 have HR := Aside0.mk hr
 clear hr
 by_cases hl : 400 < l.length
 ·
  have HB := Aside0.mk (Below.refl w.heap.size w)
  go_enter Try.func135, Try.ntmps135
  go_wp2
  go_ret
  exact RetV.mk (by simp [rowsOk]; intro _; omega) HB.out
 ·
  have hl' : ¬ (400 < (l.length : Int)) := by omega
  have HB := Aside0.mk (Below.refl w.heap.size w)
  go_enter Try.func135, Try.ntmps135
  go_wp2
  go_loopw [3] (fun i wr => ∃ k : Nat, k ≤ l.length ∧ i = .int .i64 k ∧ Aside0 ((l.take k).all rowOk = true) ∧ Aside0 (Below w.heap.size w wr)) (fun i _ => l.length - (intOf i).toNat)
  case atStart => exact ⟨0, Nat.zero_le _, rfl, ⟨by simp⟩, HB⟩
  case round =>
   obtain ⟨k, hk, rfl, HA, HB⟩ := hrel
   by_cases hlt : k < l.length
   ·obtain ⟨ad, x, e, HX, h0, h1, h2, h3, h4⟩ := rdRw HR.out HB.out hlt
    cases e
    go_wp2_with (go_at_call 173; refine (spec_l2Row x _).mono ?_; rintro e w' ⟨rfl, hb⟩; replace HB := Aside0.mk (bthen HB.out hb))
    all_goals first
     | (go_roundw
        case rel => exact ⟨k + 1, by omega, by go_num, ⟨all_take_succ HA.out HX.out (by simp_all)⟩, HB⟩
        case measure => simp [intOf]; omega)
     | (go_ret; exact RetV.mk (by rw [rowsOk, all_bad HX.out (by simp_all)]; rfl) HB.out)
   ·go_wp2
    go_ret
    exact RetV.mk (by rw [rowsOk, all_done HA.out hlt]; simp; omega) HB.out
set_option maxRecDepth 100000 in
set_option maxHeartbeats 1000000 in
theorem spec_BatchOk (v : Value) (l : List Rw) (w : World) (h : Sl kRw w v l) : Calls Try.prog 82 #[v] w (RetV w (.bool (batchOk l))) := by
 have HS := Aside0.mk h
 obtain ⟨A, c_, rfl, HC, hr⟩ := h
 have hm := Kd.C_max hr
 have HR := Aside0.mk hr
 clear hr
 cases hro : rowsOk l
 ·
  have HB := Aside0.mk (Below.refl w.heap.size w)
  go_enter Try.func82, Try.ntmps82
  go_wp2_with (go_at_call 135; refine (spec_RowsOk _ l _ HS.out).mono ?_; rintro e w' ⟨rfl, hb⟩; replace HB := Aside0.mk hb)
  go_ret
  exact RetV.mk (by simp [batchOk, hro]) HB.out
 ·
  have HB := Aside0.mk (Below.refl w.heap.size w)
  go_enter Try.func82, Try.ntmps82
  go_wp2_with (go_at_call 135; refine (spec_RowsOk _ l _ HS.out).mono ?_; rintro e w' ⟨rfl, hb⟩; replace HB := Aside0.mk hb)
  go_loopw [3] (fun i wr => ∃ k : Nat, k ≤ l.length ∧ i = .int .i64 k ∧ Aside0 (asc (l.take k) = true) ∧ Aside0 (Below w.heap.size w wr)) (fun i _ => l.length - (intOf i).toNat)
  case atStart => exact ⟨0, Nat.zero_le _, rfl, ⟨by simp [asc]⟩, HB⟩
  case round =>
   obtain ⟨k, hk, rfl, HA, HB⟩ := hrel
   by_cases hlt : k < l.length
   ·obtain ⟨ad, x, e, HX, h0, h1, h2, h3, h4⟩ := rdRw HR.out HB.out hlt
    cases e
    have p0 := fun u => Ext.cell h0 u
    have p1 := fun u => Ext.cell h1 u
    have p2 := fun u => Ext.cell h2 u
    have p3 := fun u => Ext.cell h3 u
    have p4 := fun u => Ext.cell h4 u
    by_cases hk0 : 0 < k
    ·obtain ⟨j, rfl⟩ : ∃ j, k = j + 1 := ⟨k - 1, by omega⟩
     obtain ⟨ad', y, e, HY, i0, i1, i2, i3, i4⟩ := rdRw HR.out HB.out (k := j) (by omega)
     cases e
     have e1 : IntKind.i64.wrap (j : Int) = j := IntWalk.i64_in _ (by omega)
     have e2 : (j : Int) < (l.length : Int) := by omega
     have e3 : j < l.length := by omega
     have e4 : (0 : Int) ≤ (j : Int) + 1 := by omega
     have q0 := fun u => Ext.cell i0 u
     have q1 := fun u => Ext.cell i1 u
     have q2 := fun u => Ext.cell i2 u
     have q3 := fun u => Ext.cell i3 u
     have q4 := fun u => Ext.cell i4 u
     go_wp2
     refine wp_region_ext (by kernel_rfl) (by kernel_rfl) ?_
     repeat (any_goals (first | go_big_quiet_step ((go_at_call 136; exact Calls.extV (spec_l2Comp y x _))) | quiet_step ((go_at_call 136; exact Calls.extV (spec_l2Comp y x _))) | (refine wpQuiet_step (fun K hK => ?_); go_simp; split <;> (refine hK _ ?_; clear hK K))))
     all_goals (refine wpQuiet_nil ?_; intro u)
     all_goals have HB2 := Aside0.mk (bthen HB.out u.bel)
     all_goals go_wp2
     all_goals first
      | (go_roundw
         case rel => exact ⟨j + 1 + 1, by omega, by go_num, ⟨by rw [asc_next HA.out HY.out HX.out]; have := comp_ge y x; cases hra : rowAhead y x <;> simp_all <;> omega⟩, HB2⟩
         case measure => simp [intOf]; omega)
      | (go_ret; exact RetV.mk (by rw [batchOk, asc_false (j + 1 + 1) (by rw [asc_next HA.out HY.out HX.out]; have := comp_ge y x; cases hra : rowAhead y x <;> simp_all <;> omega)]; rfl) HB2.out)
    ·go_wp2
     refine wp_region_ext (by kernel_rfl) (by kernel_rfl) ?_
     repeat (any_goals (first | go_big_quiet_step (fail) | quiet_step (fail) | (refine wpQuiet_step (fun K hK => ?_); go_simp; split <;> (refine hK _ ?_; clear hK K))))
     all_goals (refine wpQuiet_nil ?_; intro u)
     all_goals have HB2 := Aside0.mk (bthen HB.out u.bel)
     all_goals go_wp2
     all_goals first
      | (go_roundw
         case rel => exact ⟨k + 1, by omega, by go_num, ⟨by rw [asc_first HX.out hk0]; simp_all⟩, HB2⟩
         case measure => simp [intOf]; omega)
      | (go_ret; exact RetV.mk (by rw [batchOk, asc_false (k + 1) (by rw [asc_first HX.out hk0]; simp_all)]; rfl) HB2.out)
   ·go_wp2
    go_ret
    exact RetV.mk (by rw [batchOk, asc_done HA.out hlt, hro]; rfl) HB.out
set_option maxRecDepth 100000 in
set_option maxHeartbeats 1000000 in
theorem impl_SpineOk (v u : Value) (ls : List (List Rw)) (f : List Tm) (w : World) (h : Sl (.slice 102 kRw) w v ls) (hf : Sl kTm w u f) (hls : ls.length ≤ 281474976710656) : Calls Try.prog 21 #[.agg #[v, u]] w (RetV w (.bool (spineOk ls f))) := by
 have HF := Aside0.mk hf
 obtain ⟨A, c_, rfl, HC, hr⟩ := h
 have hm := Kd.C_max hr
 have HR := Aside0.mk hr
 clear hr
 have HB := Aside0.mk (Below.refl w.heap.size w)
 go_enter Try.func21, Try.ntmps21
 go_wp2
 go_loopw [3, 9] (fun m i wr => ∃ k : Nat, k ≤ ls.length ∧ i = .int .i64 k ∧ m = .int .i64 (many (ls.take k)) ∧ many (ls.take k) ≤ 400 * k ∧ Aside0 ((ls.take k).all batchOk = true) ∧ wr.cell? ⟨w.heap.size, 0, none⟩ = some (.slice A ls.length c_) ∧ wr.cell? ⟨w.heap.size, 1, none⟩ = some u ∧ Aside0 (Below w.heap.size w wr)) (fun _ i _ => ls.length - (intOf i).toNat)
 case atStart => exact ⟨0, Nat.zero_le _, rfl, rfl, by simp [many], ⟨by simp⟩, by simp, by simp, ⟨below_alloc HB.out _⟩⟩
 case round =>
  obtain ⟨k, hk, rfl, rfl, hmn, HA, g0, g1, HB⟩ := hrel
  by_cases hlt : k < ls.length
  ·obtain ⟨ad, x, A1, c1, e, HX, h0, HS⟩ := rdSl HR.out HB.out hlt
   cases e
   have hmt := Aside0.mk (many_take HX.out)
   cases hbo : batchOk x
   ·go_wp2_with (go_at_call 37; refine (impl_BatchOk _ x _ HS.out).mono ?_; rintro e w' ⟨rfl, hb⟩; replace HB := Aside0.mk (bthen HB.out hb))
    go_ret
    exact RetV.mk (by rw [spineOk, all_bad HX.out hbo]; rfl) HB.out
   ·have hx := batchOk_len hbo
    go_wp2_with (go_at_call 37; refine (impl_BatchOk _ x _ HS.out).mono ?_; rintro e w' ⟨rfl, hb⟩; replace HB := Aside0.mk (bthen HB.out hb))
    go_roundw
    case rel => exact ⟨k + 1, by omega, by go_num, by rw [hmt.out]; go_num, by rw [hmt.out]; omega, ⟨all_take_succ HA.out HX.out hbo⟩, pw_cell_below hb g0, pw_cell_below hb g1, HB⟩
    case measure => simp [intOf]; omega
  ·go_wp2_with (go_at_call 76; refine (impl_FrontOk _ f _ (by exact Sl.below HF.out HB.out)).mono ?_; rintro e w' ⟨rfl, hb⟩; replace HB := Aside0.mk (bthen HB.out hb))
   all_goals (go_ret; exact RetV.mk (by have := many_done hlt; rw [spineOk, all_done HA.out hlt]; first | (simp_all; done) | (simp_all; omega)) HB.out)
set_option maxRecDepth 100000 in
set_option maxHeartbeats 1000000 in
theorem spec_SpineOk (v u : Value) (ls : List (List Rw)) (f : List Tm) (w : World) (h : Sl (.slice 102 kRw) w v ls) (hf : Sl kTm w u f) : Calls Try.prog 28 #[.agg #[v, u]] w (RetV w (.bool (spineOk ls f))) := by
 have HF := Aside0.mk hf
 obtain ⟨A, c_, rfl, HC, hr⟩ := h
 have hm := Kd.C_max hr
 have HR := Aside0.mk hr
 clear hr
 by_cases hl6 : 6 < ls.length
 ·
  have hl6' : 6 < (ls.length : Int) := by omega
  have HB := Aside0.mk (Below.refl w.heap.size w)
  go_enter Try.func28, Try.ntmps28
  go_wp2
  go_ret
  exact RetV.mk (by simp [spineOk]; intros; omega) (below_alloc HB.out _)
 ·
  have hl6' : ¬ 6 < (ls.length : Int) := by omega
  cases hfo : frontOk f
  ·
   have HB := Aside0.mk (Below.refl w.heap.size w)
   go_enter Try.func28, Try.ntmps28
   go_wp2_with (go_at_call 87; refine (spec_FrontOk _ f _ (by exact Sl.below HF.out (below_alloc (Below.refl _ _) _))).mono ?_; rintro e w' ⟨rfl, hb⟩; replace HB := Aside0.mk (bthen (below_alloc HB.out _) hb))
   go_ret
   exact RetV.mk (by simp [spineOk, hfo]) HB.out
  ·
   have HB := Aside0.mk (Below.refl w.heap.size w)
   go_enter Try.func28, Try.ntmps28
   go_wp2_with (go_at_call 87; refine (spec_FrontOk _ f _ (by exact Sl.below HF.out (below_alloc (Below.refl _ _) _))).mono ?_; rintro e w' ⟨rfl, hb⟩; replace HB := Aside0.mk (bthen (below_alloc HB.out _) hb); have g0 : w'.cell? ⟨w.heap.size, 0, none⟩ = some (.slice A ls.length c_) := pw_cell_below hb (by simp))
   go_loopw [3, 4] (fun m i wr => ∃ k : Nat, k ≤ ls.length ∧ i = .int .i64 k ∧ m = .int .i64 (many (ls.take k)) ∧ many (ls.take k) ≤ 400 * k ∧ Aside0 ((ls.take k).all batchOk = true) ∧ wr.cell? ⟨w.heap.size, 0, none⟩ = some (.slice A ls.length c_) ∧ Aside0 (Below w.heap.size w wr)) (fun _ i _ => ls.length - (intOf i).toNat)
   case atStart => exact ⟨0, Nat.zero_le _, rfl, rfl, by simp [many], ⟨by simp⟩, g0, HB⟩
   case round =>
    obtain ⟨k, hk, rfl, rfl, hmn, HA, g0, HB⟩ := hrel
    by_cases hlt : k < ls.length
    ·obtain ⟨ad, x, A1, c1, e, HX, h0, HS⟩ := rdSl HR.out HB.out hlt
     cases e
     have hmt := Aside0.mk (many_take HX.out)
     cases hbo : batchOk x
     ·go_wp2_with (go_at_call 82; refine (spec_BatchOk _ x _ HS.out).mono ?_; rintro e w' ⟨rfl, hb⟩; replace HB := Aside0.mk (bthen HB.out hb))
      go_ret
      exact RetV.mk (by rw [spineOk, all_bad HX.out hbo]; rfl) HB.out
     ·have hx := batchOk_len hbo
      go_wp2_with (go_at_call 82; refine (spec_BatchOk _ x _ HS.out).mono ?_; rintro e w' ⟨rfl, hb⟩; replace HB := Aside0.mk (bthen HB.out hb); replace h0 := pw_cell_below hb h0; replace g0 := pw_cell_below hb g0)
      go_roundw
      case rel => exact ⟨k + 1, by omega, by go_num, by rw [hmt.out]; go_num, by rw [hmt.out]; omega, ⟨all_take_succ HA.out HX.out hbo⟩, g0, HB⟩
      case measure => simp [intOf]; omega
    ·go_wp2
     all_goals (go_ret; exact RetV.mk (by have := many_done hlt; rw [spineOk, all_done HA.out hlt]; first | (simp_all; done) | (simp_all; omega)) HB.out)
end Go.Proofs.Ytkdendlgaaimbaa.X
namespace Go.Proofs.Ytkdendlgaaimbaa.X
open Go.RowKit Go.Proofs.YtkdendlgaaimbaaW.PrintWords
set_option linter.unusedVariables false
set_option linter.unusedSimpArgs false
end Go.Proofs.Ytkdendlgaaimbaa.X
namespace Go.Proofs.Ytkdendlgaaimbaa.X
open Go.RowKit
def Ev {α : Type} (f : Nat → Option α) (r : α) : Prop := ∃ K, ∀ k, K ≤ k → f k = some r
theorem Ev.bind {α β : Type} {f : Nat → Option α} {a : α} {g : Nat → α → Option β} {b : β} (h : Ev f a) (h2 : Ev (fun k => g k a) b) : Ev (fun k => (f k).bind (g k)) b := by
 obtain ⟨K, h⟩ := h
 obtain ⟨L, h2⟩ := h2
 refine ⟨max K L, fun k hk => ?_⟩
 show (f k).bind (g k) = some b
 rw [h k (by omega)]
 exact h2 k (by omega)
theorem Ev.pure {α : Type} (a : α) : Ev (fun _ => some a) a := ⟨0, fun _ _ => rfl⟩
theorem Ev.all {α : Type} {f : Nat → Option α} {a : α} (h : ∀ k, f k = some a) : Ev f a := ⟨0, fun k _ => h k⟩
theorem Ev.succ {α : Type} {f : Nat → Option α} {a : α} (h : Ev (fun k => f (k + 1)) a) : Ev f a := by
 obtain ⟨K, h⟩ := h
 refine ⟨K + 1, fun k hk => ?_⟩
 obtain ⟨j, rfl⟩ : ∃ j, k = j + 1 := ⟨k - 1, by omega⟩
 exact h j (by omega)
theorem Ev.of {α : Type} {f g : Nat → Option α} {a : α} (h : Ev f a) (e : ∀ k, g k = f k) : Ev g a := by
 obtain ⟨K, h⟩ := h
 exact ⟨K, fun k hk => by rw [e]; exact h k hk⟩
theorem Ev.get {α : Type} {f : Nat → Option α} {a : α} (h : Ev f a) : ∃ k, f k = some a := by
 obtain ⟨K, h⟩ := h
 exact ⟨K, h K (Nat.le_refl _)⟩
theorem wsmall {n : Int} (h0 : 0 ≤ n) (h1 : n < 9223372036854775808) : wrap64 n = n := by unfold wrap64; omega
theorem wnext {i m : Nat} (h : i < m) (hm : m ≤ 1152921504606846976) : wrap64 ((i : Int) + 1) = ((i + 1 : Nat) : Int) := by rw [wsmall (by omega) (by omega)]; omega
theorem getD_drop {α : Type} {l : List α} {i : Nat} (h : i < l.length) (z : α) : l.drop i = l.getD i z :: l.drop (i + 1) := by
 rw [List.drop_eq_getElem_cons h]
 simp [List.getD, h]
theorem getD_some {α : Type} {l : List α} {i : Nat} (h : i < l.length) (z : α) : l[i]? = some (l.getD i z) := by
 rw [List.getElem?_eq_getElem h]
 simp [List.getD, h]
end Go.Proofs.Ytkdendlgaaimbaa.X
namespace Go.Proofs.Ytkdendlgaaimbaa.X
open Go.RowKit Go.Proofs.YtkdendlgaaimbaaW.PrintWords
set_option linter.unusedVariables false
set_option linter.unusedSimpArgs false
theorem reps_one {α : Type} {d : Kd α} {w : World} {xs : List α} {cs : List Value} (h : Reps (d.K w) d.sz xs cs) (hs : 0 < d.sz) : ∀ u ∈ cs, u.oneCell' = true := by
 intro u hu
 obtain ⟨j, hj, rfl⟩ := List.getElem_of_mem hu
 have hl := h.1
 have hq : j / d.sz < xs.length := Nat.div_lt_of_lt_mul (by rw [Nat.mul_comm, ← hl]; exact hj)
 have hK := h.2 (j / d.sz) _ (List.getElem?_eq_getElem hq)
 refine d.K_one hK _ ?_
 have hm := Nat.mod_lt j hs
 have he : ((cs.drop (j / d.sz * d.sz)).take d.sz)[j % d.sz]? = some cs[j] := by
  rw [List.getElem?_take_of_lt hm, List.getElem?_drop, Nat.div_add_mod' j d.sz, List.getElem?_eq_getElem hj]
 exact List.mem_of_getElem? he
section
variable {P : Program} {ops : Array Oper} {rest : List Oper} {o : Oper} {a : Act} {Q : Exit → Act → World → Prop} {α : Type}
theorem copyAll (d : Kd α) {w0 W : World} {base : Nat} (hgd : o.guard = none) {x y : Operand} {t e : TypeId} (ho : o.op = .call { callee := .builtin .copy, args := #[x, y], argTypes := #[t, t] })
  (ht : P.underlying t = some (.slice e)) (hsz : (P.info? e).map (·.size) = some d.sz) (hs0 : 0 < d.sz) (hflat : ∀ w w' b ok p cs, d.K w p cs → d.M w' b ok p cs) {xs zs : List α} {v : Value} (hv : a.eval x = v)
  (HO : d.R e W base okT v zs) (hl : zs.length = xs.length) (HS : Sl d W (a.eval y) xs) (HB : Below base w0 W)
  (h : ∀ w1, d.R e w1 base okT v xs → Below base w0 w1 → wpList P ops Q rest (a.put o.dst (goInt xs.length)) w1) : wpList P ops Q (o :: rest) a W := by
 obtain ⟨A, c, hy, hc, hC⟩ := HS
 obtain ⟨hok, inner, hown, hr⟩ := HO
 rcases hown.2 with ⟨rfl, hn⟩ | ⟨g, cap, cur, rfl, hbg, hg, hnc, hcm, hcs, htk⟩
 ·obtain rfl : xs = [] := List.eq_nil_of_length_eq_zero (by omega)
  obtain rfl : zs = [] := List.eq_nil_of_length_eq_zero (by omega)
  cases hq : P.info? e with
  | none => simp [hq] at hsz
  | some i =>
   have hi : i.size = d.sz := by simpa [hq] using hsz
   refine wpList_plain hgd fun K hK => ?_
   have hrun : (Builtin.copy_ #[t, t] o.type #[.slice none 0 0, .slice A 0 c]).run P W = .ok (goInt 0) W := by
    cases A <;> simp [Builtin.copy_, run_underlying ht, Builtin.lenOf, Builtin.firstCells, sizeOf, typeInfo, hq, loadCells, loadCellsFrom, Result.andThen]
   unfold Oper.wp
   simp only [List.length_nil] at hy
   simp [execOp, ho, resolve, invoke, builtin, hv, hy, hrun, Result.andThen]
   exact hK _ _ (h W (Kd.R_nil _ _ _ _ _) HB)
 ·by_cases h0 : xs.length = 0
  ·obtain rfl : xs = [] := List.eq_nil_of_length_eq_zero h0
   obtain rfl : zs = [] := List.eq_nil_of_length_eq_zero (by omega)
   cases hq : P.info? e with
   | none => simp [hq] at hsz
   | some i =>
    have hi : i.size = d.sz := by simpa [hq] using hsz
    refine wpList_plain hgd fun K hK => ?_
    have hrun : (Builtin.copy_ #[t, t] o.type #[.slice (some ⟨g, 0, none⟩) 0 cap, .slice A 0 c]).run P W = .ok (goInt 0) W := by
     cases A <;> simp [Builtin.copy_, run_underlying ht, Builtin.lenOf, Builtin.firstCells, sizeOf, typeInfo, hq, loadCells, loadCellsFrom, storeCells, Result.andThen]
    unfold Oper.wp
    simp only [List.length_nil] at hy hv
    simp [execOp, ho, resolve, invoke, builtin, hv, hy, hrun, Result.andThen]
    exact hK _ _ (h W ⟨hok, inner, hown, hr⟩ HB)
  ·obtain ⟨ad, rfl, hcell⟩ := hC.2.2 (by omega)
   obtain ⟨cs, hreps, hcc⟩ := ReadsRow.inner_ hC
   have hcl := hreps.1
   have h1 := reps_one hreps hs0
   have hle : zs.length * d.sz ≤ cap * d.sz := Nat.mul_le_mul_right _ hnc
   have hfit : 0 + 0 + cs.length ≤ cur.size := by rw [hcl, hcs, ← hl]; omega
   have hst := run_storeCells_at P g 0 e cs 0 cur W hg hfit h1
   have hld := run_loadCells_list (P := P) W ad cs hcc
   cases hq : P.info? e with
   | none => simp [hq] at hsz
   | some i =>
    have hi : i.size = d.sz := by simpa [hq] using hsz
    refine wpList_plain hgd fun K hK => ?_
    have hrun : (Builtin.copy_ #[t, t] o.type #[.slice (some ⟨g, 0, none⟩) zs.length cap, .slice (some ad) xs.length c]).run P W = .ok (goInt xs.length) (W.setRow g (cur.toList.take 0 ++ cs ++ cur.toList.drop (0 + cs.length)).toArray) := by
     rw [hcl] at hld
     simp only [Nat.zero_add, Nat.add_zero] at hst ⊢
     simp [Builtin.copy_, run_underlying ht, Builtin.lenOf, Builtin.firstCells, sizeOf, typeInfo, hq, hi, hl, hld]
     have hst' := hst
     simp at hst'
     simp [hst', Result.andThen]
    unfold Oper.wp
    simp [execOp, ho, resolve, invoke, builtin, hv, hy, hrun, Result.andThen]
    refine hK _ _ (h _ ⟨hok, cs, ⟨by rw [hcl], .inr ⟨g, cap, _, by rw [hl], hbg, setRow_heap W g cur _ e _ hg, by omega, hcm, ?_, ?_⟩⟩, ?_⟩ (Go.below_setRow HB hbg _))
    ·simp; rw [hcl] at *; omega
    ·simp [hcl]
    ·exact ⟨hcl, fun j p hj => hflat _ _ _ _ _ _ (hreps.2 j p hj)⟩
end
set_option maxRecDepth 100000 in
set_option maxHeartbeats 400000 in
theorem impl_timesCopy (v : Value) (l : List Tm) (w : World) (h : Sl kTm w v l) (hl : l.length < 7036874416000) : Calls Try.prog 77 #[v] w (RetR kTm 43 w l) := by
 have HS := Aside0.mk h
 obtain ⟨A, c_, rfl, HC, hr⟩ := h
 have hm := Kd.C_max hr
 have HR := Aside0.mk hr
 clear hr
 have HB := Aside0.mk (Below.refl w.heap.size w)
 go_enter Try.func77, Try.ntmps77
 go_wp2_with (first | (refine makeTm (w0 := w) l.length rfl (N := 6) rfl rfl rfl rfl hl HB.out (Nat.le_refl _) ?_; intro v1 w1 ho hb hg_ hn_; have HO := Aside0.mk ho; replace HB := Aside0.mk hb; clear ho hb hg_ hn_) | (refine copyAll kTm (w0 := w) (base := w.heap.size) rfl rfl Try.underlying24 (by kernel_rfl) (by decide) (fun _ _ _ _ _ _ hk => kTm_M.2 (kTm_K.1 hk)) (xs := l) rfl HO.out (by simp) (HS.out.below HB.out) HB.out ?_; intro w2 ho hb; have HO2 := Aside0.mk ho; replace HB := Aside0.mk hb; clear ho hb))
 go_ret
 exact RetR.mk HO2.out HB.out
set_option maxRecDepth 100000 in
set_option maxHeartbeats 400000 in
theorem impl_rowsCopy (v : Value) (l : List Rw) (w : World) (h : Sl kRw w v l) (hl : l.length < 7036874416000) : Calls Try.prog 130 #[v] w (RetR kRw 102 w l) := by
 have HS := Aside0.mk h
 obtain ⟨A, c_, rfl, HC, hr⟩ := h
 have hm := Kd.C_max hr
 have HR := Aside0.mk hr
 clear hr
 have HB := Aside0.mk (Below.refl w.heap.size w)
 go_enter Try.func130, Try.ntmps130
 go_wp2_with (first | (refine makeRw (w0 := w) l.length rfl (N := 6) rfl rfl rfl rfl hl HB.out (Nat.le_refl _) ?_; intro v1 w1 ho hb hg_ hn_; have HO := Aside0.mk ho; replace HB := Aside0.mk hb; clear ho hb hg_ hn_) | (refine copyAll kRw (w0 := w) (base := w.heap.size) rfl rfl Try.underlying27 (by kernel_rfl) (by decide) (fun _ _ _ _ _ _ hk => kRw_M.2 (kRw_K.1 hk)) (xs := l) rfl HO.out (by simp) (HS.out.below HB.out) HB.out ?_; intro w2 ho hb; have HO2 := Aside0.mk ho; replace HB := Aside0.mk hb; clear ho hb))
 go_ret
 exact RetR.mk HO2.out HB.out
end Go.Proofs.Ytkdendlgaaimbaa.X
namespace Go.Proofs.Ytkdendlgaaimbaa.X
open Go.RowKit Go.Proofs.YtkdendlgaaimbaaW.PrintWords
set_option linter.unusedVariables false
set_option linter.unusedSimpArgs false
set_option maxRecDepth 100000 in
set_option maxHeartbeats 400000 in
theorem laws_toTime (a b : Int) (w : World) : Calls Try.prog 160 #[.agg #[.int .i64 a, .int .i64 b]] w (RetV w (.agg #[.int .i64 a, .int .i64 b])) := by
 have HB := Aside0.mk (Below.refl w.heap.size w)
 go_enter Try.func160, Try.ntmps160
 go_wp2
 all_goals (refine bodyPost_ret (by simp [results, Try.results160, go_sem, *]; rfl) rfl (RetV.mk ?_ (by repeat (first | exact HB.out | apply below_alloc | refine below_set ?_ (by omega)))); rfl)
set_option maxRecDepth 100000 in
set_option maxHeartbeats 400000 in
theorem laws_toRow (x : Rw) (w : World) : Calls Try.prog 111 #[.agg #[.int .i64 x.f0, .int .i64 x.f1, .int .i64 x.f2.f0, .int .i64 x.f2.f1, .int .i64 x.f3]] w (RetV w (.agg #[.int .i64 x.f0, .int .i64 x.f1, .int .i64 x.f2.f0, .int .i64 x.f2.f1, .int .i64 x.f3])) := by
 have HB := Aside0.mk (Below.refl w.heap.size w)
 go_enter Try.func111, Try.ntmps111
 go_wp2_with (go_at_call 160; refine (laws_toTime _ _ _).mono ?_; rintro e w' ⟨rfl, hb⟩; have HG := Aside0.mk (show w'.heap[w.heap.size + 1]? = some (.cells #[.int .i64 0, .int .i64 0, .int .i64 0, .int .i64 0, .int .i64 0] 102 (0, 0)) from blk_below (blk_alloc (blk_two w _ _) _) hb); replace HB := Aside0.mk (bthen (by repeat (first | exact HB.out | apply below_alloc | refine below_set ?_ (by omega))) hb); obtain ⟨hc, hf⟩ := bcell hb)
 refine ret_cell (p := 2) (g := w.heap.size + 1) (cs := #[.int .i64 x.f0, .int .i64 x.f1, .int .i64 x.f2.f0, .int .i64 x.f2.f1, .int .i64 x.f3]) ?_ ?_ ?_ ?_ Try.underlying102 rfl (by kernel_rfl) ?_
 ·rfl
 ·rfl
 ·rfl
 ·refine blk5 (z0 := .int .i64 0) (z1 := .int .i64 0) (z2 := .int .i64 0) (z3 := .int .i64 0) (z4 := .int .i64 0) ?_ _ _ _ _ _
  repeat (first | exact HG.out | refine blk_far ?_ (by simp) _)
 ·exact RetV.mk rfl (by repeat (with_reducible first | exact HB.out | refine below_set ?_ (by omega) | apply below_alloc))
set_option maxRecDepth 100000 in
set_option maxHeartbeats 1000000 in
theorem laws_toRowS (v : Value) (l : List Rw) (w : World) (h : Sl kRw w v l) (hl : l.length < 7036874416000) : Calls Try.prog 49 #[v] w (RetR kRw 102 w l) := by
 obtain ⟨A, c_, rfl, HC, hr⟩ := h
 have hm := Kd.C_max hr
 have HR := Aside0.mk hr
 clear hr
 have HB := Aside0.mk (Below.refl w.heap.size w)
 go_enter Try.func49, Try.ntmps49
 go_wp2_with (refine makeRw (w0 := w) l.length rfl (N := 7) rfl rfl rfl rfl hl HB.out (Nat.le_refl _) ?_; intro v1 w1 ho hb hg_ hn_; have HO := Aside0.mk ho; replace HB := Aside0.mk hb; clear ho hb hg_ hn_)
 go_loopw [4] (fun i wr => ∃ k : Nat, k ≤ l.length ∧ i = .int .i64 k ∧ Aside0 (kRw.R 102 wr w.heap.size okT v1 (l.take k ++ List.replicate (l.length - k) default)) ∧ Aside0 (Below w.heap.size w wr)) (fun i _ => l.length - (intOf i).toNat)
 case atStart => exact ⟨0, Nat.zero_le _, rfl, by simpa using HO, HB⟩
 case round =>
  obtain ⟨k, hk, rfl, HO1, HB⟩ := hrel
  by_cases hlt : k < l.length
  ·obtain ⟨ad, x, e, HX, h0, h1, h2, h3, h4⟩ := rdRw HR.out HB.out hlt
   cases e
   obtain ⟨g, cap, rfl, hg1, hg2⟩ := formR HO1.out (n := l.length) (by simp; omega) (by omega)
   go_wp2_with (first | (go_at_call 111; refine (laws_toRow x _).mono ?_; rintro e w' ⟨rfl, hb⟩; have HO2 := Aside0.mk (Kd.R_below HO1.out hb); replace HB := Aside0.mk (bthen HB.out hb)) | (refine storeEl kRw (w0 := w) (base := w.heap.size) rfl rfl rfl k x (vRw x) rfl rfl rfl (by kernel_rfl) HO2.out hlt (kRw_M.2 rfl) (okp := fun _ => False) (fun _ hq => hq.elim) HB.out ?_; intro w2 ho hb2 hg_; have HO3 := Aside0.mk ho; replace HB := Aside0.mk hb2; clear ho hb2 hg_))
   go_roundw
   case rel => exact ⟨k + 1, by omega, by go_num, ⟨by have := HO3.out; rw [set_next HX.out] at this; exact this⟩, HB⟩
   case measure => simp [intOf]; omega
  ·go_wp2
   go_ret
   exact RetR.mk (by have := HO1.out; rw [List.take_of_length_le (by omega), show l.length - k = 0 by omega] at this; simpa using this) HB.out
set_option maxRecDepth 100000 in
set_option maxHeartbeats 1000000 in
theorem laws_toRowSS (v : Value) (l : List (List Rw)) (w : World) (h : Sl (Kd.slice 132 kRw) w v l) (hl : l.length < 7036874416000) (hl2 : ∀ x ∈ l, x.length < 7036874416000) : Calls Try.prog 109 #[v] w fun e w' => ∃ u, e = .returned u ∧ Kd.S (Kd.slice 102 kRw) 27 w' w.heap.size okT u l ∧ Below w.heap.size w w' := by
 obtain ⟨A, c_, rfl, HC, hr⟩ := h
 have hm := Kd.C_max hr
 have HR := Aside0.mk hr
 clear hr
 have HB := Aside0.mk (Below.refl w.heap.size w)
 go_enter Try.func109, Try.ntmps109
 go_wp2_with (refine Kd.S_make (Kd.slice 102 kRw) (w0 := w) w.heap.size 27 (N := 7) rfl rfl 23 _ _ rfl (l.length : Int) rfl rfl underRwSS (.slice none 0 0) 24 infoRwS rfl (by decide) (by omega) [] (ok := okT) (okp := fun _ => False) ⟨_, rfl, Kd.R_nil _ _ _ _ _⟩ (fun _ hk => hk.elim) trivial (by omega) (by simp; omega) HB.out (Nat.le_refl _) ?_; intro v1 w1 ho hb hg_ hn_; have HO := Aside0.mk ho; replace HB := Aside0.mk hb; clear ho hb hg_ hn_)
 go_loopw [4] (fun i wr => ∃ k : Nat, k ≤ l.length ∧ i = .int .i64 k ∧ Aside0 (Kd.S (Kd.slice 102 kRw) 27 wr w.heap.size okT v1 (l.take k ++ List.replicate (l.length - k) [])) ∧ Aside0 (Below w.heap.size w wr)) (fun i _ => l.length - (intOf i).toNat)
 case atStart => exact ⟨0, Nat.zero_le _, rfl, by simpa using HO, HB⟩
 case round =>
  obtain ⟨k, hk, rfl, HO1, HB⟩ := hrel
  by_cases hlt : k < l.length
  ·obtain ⟨ad, x, A1, c1, e, HX, h0, HS⟩ := rdSl HR.out HB.out hlt
   cases e
   obtain ⟨g, cap, rfl, hg1, hg2⟩ := formS HO1.out (n := l.length) (by simp; omega) (by omega)
   have hx := hl2 x (List.mem_of_getElem? HX.out)
   go_wp2_with (first | (go_at_call 49; refine (laws_toRowS _ x _ HS.out hx).mono ?_; rintro e w' ⟨u, rfl, hu, hb⟩; have HO2 := Aside0.mk (Kd.S_old HO1.out hb); have HU := Aside0.mk (Kd.R_lower (Kd.R_mono (Kd.R_bound hu) (fun q hq => hq.2.1)) HB.out.size); obtain ⟨A2, c2, rfl, _, _⟩ := Kd.R_reads hu; replace HB := Aside0.mk (bthen HB.out hb)) | (refine storeElS (Kd.slice 102 kRw) (w0 := w) (base := w.heap.size) rfl rfl rfl k x [.slice A2 x.length c2] rfl (by first | exact (Nat.mul_one _).symm | rfl | simp) rfl (by kernel_rfl) (Kd.S_mono HO2.out (fun q hq => hq.2)) (by simp; omega) hlt ⟨_, rfl, HU.out⟩ HB.out ?_; intro w2 ho hb2 hg_; have HO3 := Aside0.mk ho; replace HB := Aside0.mk hb2; clear ho hb2 hg_))
   go_roundw
   case rel => exact ⟨k + 1, by omega, by go_num, ⟨by have := HO3.out; rw [set_next HX.out] at this; exact this⟩, HB⟩
   case measure => simp [intOf]; omega
  ·go_wp2
   go_ret
   exact ⟨_, rfl, by have := HO1.out; rw [List.take_of_length_le (by omega), show l.length - k = 0 by omega] at this; simpa using this, HB.out⟩
def mark (k : Int) : Rw := ⟨k, k + 1, ⟨k + 2, k + 3⟩, k + 4⟩
def marks (k : Int) (n : Nat) : List Rw := (List.range n).map fun i : Nat => mark (k + 5 * (i : Int))
theorem marks_len (k : Int) (n : Nat) : (marks k n).length = n := by simp [marks]
theorem marks_succ (k : Int) (n : Nat) : marks k (n + 1) = marks k n ++ [mark (k + 5 * (n : Int))] := by simp [marks, List.range_succ]
theorem set_mid {α : Type} (A l : List α) (i : Nat) (y : α) (hA : A.length = i) (hi : i < l.length) : (A ++ l.drop i).set i y = (A ++ [y]) ++ l.drop (i + 1) := by
 subst hA
 rw [List.set_append_right _ _ (Nat.le_refl _), Nat.sub_self, List.drop_eq_getElem_cons hi, List.set_cons_zero, List.append_assoc]
 rfl
theorem wrapM {x y : Int} (h : x = y) (hy : 0 ≤ y ∧ y < 9223372036854775808) : IntKind.i64.wrap x = y := by subst h; exact IntWalk.i64_in _ (by omega)
section
variable {P : Program} {ops : Array Oper} {rest : List Oper} {o : Oper} {a : Act} {Q : Exit → Act → World → Prop}
theorem storeF {w0 W : World} {base : Nat} (hN : o.dst = none) (hgd : o.guard = none) {t : TypeId} {p x : Operand} (ho : o.op = .store t p x) {e g n cap o' : Nat} (k j : Nat) {xs : List Rw} (x0 x' : Rw) (u : Int) {ok : Nat → Prop}
  (haddr : a.eval p = .pointer (some ⟨g, o', none⟩)) (hoff : o' = k * 5 + j) (hu : a.eval x = .int .i64 u) (ht : (P.info? t).map (·.size) = some 1)
  (HO : kRw.R e W base ok (.slice (some ⟨g, 0, none⟩) n cap) (xs.set k x0)) (hi : k < n) (hl : k < xs.length) (hj : j < 5) (hx : vRw x' = (vRw x0).take j ++ [.int .i64 u] ++ (vRw x0).drop (j + 1)) (HB : Below base w0 W)
  (h : ∀ w1, kRw.R e w1 base ok (.slice (some ⟨g, 0, none⟩) n cap) (xs.set k x') → Below base w0 w1 → W.grownBy w1 (some g) → wpList P ops Q rest a w1) : wpList P ops Q (o :: rest) a W := by
 obtain ⟨c, hcl, hM, hcc, _⟩ := Kd.R_elem HO x0 (k : Int) (by omega) (by omega)
 simp only [Int.toNat_natCast] at hcc hM
 have e0 : (xs.set k x0).getD k x0 = x0 := by simp [List.getD, List.getElem?_set, hl]
 rw [e0] at hM
 have ec := kRw_M.1 hM
 subst ec
 refine Kd.R_store kRw base hN hgd t p x ho e (k : Int) j _ x' _ [.int .i64 u] (vRw x0) ok (fun _ => False) haddr (by rw [Int.toNat_natCast]; exact hoff) rfl (by rw [hu]; rfl) ht (fun q hq => by simp at hq; subst hq; rfl) HO (by omega) (by omega) hcl (by simpa using hcc) (by show j + 1 ≤ 5; omega) ?_ (fun _ hq => hq.elim) HB (by simpa using h)
 exact kRw_M.2 hx.symm
end
set_option maxRecDepth 100000 in
set_option maxHeartbeats 1000000 in
theorem laws_markRowS (P0 : Nat → Prop) (v : Value) (l : List Rw) (k0 : Int) (w0 w : World) (hB : Below w0.heap.size w0 w) (h : kRw.R 102 w w0.heap.size P0 v l) (hk0 : 0 ≤ k0) (hl : k0 + 5 * (l.length : Int) < 4611686018427387904) : Calls Try.prog 53 #[v, .int .i64 k0] w fun e w' => e = .returned (.int .i64 (k0 + 5 * (l.length : Int))) ∧ kRw.R 102 w' w0.heap.size P0 v (marks k0 l.length) ∧ Below w0.heap.size w0 w' ∧ Kept w w' P0 := by
 have HO := Aside0.mk h
 have HB := Aside0.mk hB
 have HK := Aside0.mk (Kept.refl w P0)
 clear hB h
 obtain ⟨A, c, rfl⟩ := Kd.R_slice HO.out
 go_enter Try.func53, Try.ntmps53
 go_wp2
 go_loopw [1, 5] (fun q i wr => ∃ k : Nat, k ≤ l.length ∧ q = .int .i64 (k0 + 5 * (k : Int)) ∧ i = .int .i64 k ∧ Aside0 (kRw.R 102 wr w0.heap.size P0 (.slice A l.length c) (marks k0 k ++ l.drop k)) ∧ Aside0 (Below w0.heap.size w0 wr) ∧ Aside0 (Kept w wr P0)) (fun _ i _ => l.length - (intOf i).toNat)
 case atStart => exact ⟨0, Nat.zero_le _, by simp, rfl, by simpa [marks] using HO, HB, HK⟩
 case round =>
  obtain ⟨k, hk, rfl, rfl, HO1, HB, HK⟩ := hrel
  by_cases hlt : k < l.length
  ·obtain ⟨g, cap, e, hg1, hg2⟩ := formR HO1.out (n := l.length) (by simp [marks_len]; omega) (by omega)
   cases e
   have hlen : (marks k0 k ++ l.drop k).length = l.length := by simp [marks_len]; omega
   have w1 : IntKind.i64.wrap (k0 + 5 * (k : Int) + 1) = k0 + 5 * (k : Int) + 1 := wrapM (by omega) (by omega)
   have w2 : IntKind.i64.wrap (k0 + 5 * (k : Int) + 1 + 1) = k0 + 5 * (k : Int) + 2 := wrapM (by omega) (by omega)
   have w3 : IntKind.i64.wrap (k0 + 5 * (k : Int) + 2 + 1) = k0 + 5 * (k : Int) + 3 := wrapM (by omega) (by omega)
   have w4 : IntKind.i64.wrap (k0 + 5 * (k : Int) + 3 + 1) = k0 + 5 * (k : Int) + 4 := wrapM (by omega) (by omega)
   have w5 : IntKind.i64.wrap (k0 + 5 * (k : Int) + 4 + 1) = k0 + 5 * (k : Int) + 5 := wrapM (by omega) (by omega)
   have hP : P0 g := HO1.out.1 _ rfl
   obtain ⟨x, hx⟩ : ∃ x, x = l[k] := ⟨_, rfl⟩
   have HN := Aside0.mk (show (marks k0 k ++ l.drop k).set k x = marks k0 k ++ l.drop k by rw [set_mid _ _ _ _ (marks_len _ _) hlt, hx, List.append_assoc]; congr 1; exact (List.drop_eq_getElem_cons hlt).symm)
   rw [← HN.out] at HO1
   go_wp2_with (first | (refine storeF (w0 := w0) (base := w0.heap.size) rfl rfl rfl k 0 (x : Rw) (⟨k0 + 5 * (k : Int), x.f1, ⟨x.f2.f0, x.f2.f1⟩, x.f3⟩ : Rw) (k0 + 5 * (k : Int)) (by first | rfl | simp) (by first | rfl | omega) (by first | rfl | (simp [*]; done)) (by kernel_rfl) HO1.out hlt (by omega) (by decide) rfl HB.out ?_; intro wn ho hb2 hg_; have HO2 := Aside0.mk ho; replace HB := Aside0.mk hb2; replace HK := Aside0.mk (Kept.of_grown hg_ HK.out (fun q e_ => .inl (by cases e_; exact hP))); clear ho hb2 hg_) | (refine storeF (w0 := w0) (base := w0.heap.size) rfl rfl rfl k 1 (⟨k0 + 5 * (k : Int), x.f1, ⟨x.f2.f0, x.f2.f1⟩, x.f3⟩ : Rw) (⟨k0 + 5 * (k : Int), k0 + 5 * (k : Int) + 1, ⟨x.f2.f0, x.f2.f1⟩, x.f3⟩ : Rw) (k0 + 5 * (k : Int) + 1) (by first | rfl | simp) (by first | rfl | omega) (by first | rfl | (simp [*]; done)) (by kernel_rfl) HO2.out hlt (by omega) (by decide) rfl HB.out ?_; intro wn ho hb2 hg_; have HO3 := Aside0.mk ho; replace HB := Aside0.mk hb2; replace HK := Aside0.mk (Kept.of_grown hg_ HK.out (fun q e_ => .inl (by cases e_; exact hP))); clear ho hb2 hg_) | (refine storeF (w0 := w0) (base := w0.heap.size) rfl rfl rfl k 2 (⟨k0 + 5 * (k : Int), k0 + 5 * (k : Int) + 1, ⟨x.f2.f0, x.f2.f1⟩, x.f3⟩ : Rw) (⟨k0 + 5 * (k : Int), k0 + 5 * (k : Int) + 1, ⟨k0 + 5 * (k : Int) + 2, x.f2.f1⟩, x.f3⟩ : Rw) (k0 + 5 * (k : Int) + 2) (by first | rfl | simp) (by first | rfl | omega) (by first | rfl | (simp [*]; done)) (by kernel_rfl) HO3.out hlt (by omega) (by decide) rfl HB.out ?_; intro wn ho hb2 hg_; have HO4 := Aside0.mk ho; replace HB := Aside0.mk hb2; replace HK := Aside0.mk (Kept.of_grown hg_ HK.out (fun q e_ => .inl (by cases e_; exact hP))); clear ho hb2 hg_) | (refine storeF (w0 := w0) (base := w0.heap.size) rfl rfl rfl k 3 (⟨k0 + 5 * (k : Int), k0 + 5 * (k : Int) + 1, ⟨k0 + 5 * (k : Int) + 2, x.f2.f1⟩, x.f3⟩ : Rw) (⟨k0 + 5 * (k : Int), k0 + 5 * (k : Int) + 1, ⟨k0 + 5 * (k : Int) + 2, k0 + 5 * (k : Int) + 3⟩, x.f3⟩ : Rw) (k0 + 5 * (k : Int) + 3) (by first | rfl | simp) (by first | rfl | omega) (by first | rfl | (simp [*]; done)) (by kernel_rfl) HO4.out hlt (by omega) (by decide) rfl HB.out ?_; intro wn ho hb2 hg_; have HO5 := Aside0.mk ho; replace HB := Aside0.mk hb2; replace HK := Aside0.mk (Kept.of_grown hg_ HK.out (fun q e_ => .inl (by cases e_; exact hP))); clear ho hb2 hg_) | (refine storeF (w0 := w0) (base := w0.heap.size) rfl rfl rfl k 4 (⟨k0 + 5 * (k : Int), k0 + 5 * (k : Int) + 1, ⟨k0 + 5 * (k : Int) + 2, k0 + 5 * (k : Int) + 3⟩, x.f3⟩ : Rw) (⟨k0 + 5 * (k : Int), k0 + 5 * (k : Int) + 1, ⟨k0 + 5 * (k : Int) + 2, k0 + 5 * (k : Int) + 3⟩, k0 + 5 * (k : Int) + 4⟩ : Rw) (k0 + 5 * (k : Int) + 4) (by first | rfl | simp) (by first | rfl | omega) (by first | rfl | (simp [*]; done)) (by kernel_rfl) HO5.out hlt (by omega) (by decide) rfl HB.out ?_; intro wn ho hb2 hg_; have HO6 := Aside0.mk ho; replace HB := Aside0.mk hb2; replace HK := Aside0.mk (Kept.of_grown hg_ HK.out (fun q e_ => .inl (by cases e_; exact hP))); clear ho hb2 hg_))
   refine ⟨⟨k + 1, by omega, ?_, ?_, ⟨?_⟩, HB, HK⟩, ?_⟩
   ·congr 1; omega
   ·rfl
   ·have := HO6.out
    rw [set_mid _ _ _ _ (marks_len _ _) hlt] at this
    rw [marks_succ]
    exact this
   ·simp [intOf]; omega
  ·go_wp2
   have hk' : k = l.length := by omega
   subst hk'
   go_ret
   exact ⟨rfl, by have := HO1.out; rw [List.drop_of_length_le (Nat.le_refl _), List.append_nil] at this; exact this, HB.out, HK.out⟩
set_option maxRecDepth 100000 in
set_option maxHeartbeats 400000 in
theorem laws_eqTime (a b c d : Int) (w : World) : Calls Try.prog 161 #[.agg #[.int .i64 a, .int .i64 b], .agg #[.int .i64 c, .int .i64 d]] w (RetV w (.bool (decide (a = c) && decide (b = d)))) := by
 have HB := Aside0.mk (Below.refl w.heap.size w)
 go_enter Try.func161, Try.ntmps161
 go_wp2
 all_goals (go_ret; exact RetV.mk (by simp_all) (by repeat (first | exact HB.out | apply below_alloc)))
def eqRw (x y : Rw) : Bool := decide (x.f0 = y.f0) && decide (x.f1 = y.f1) && (decide (x.f2.f0 = y.f2.f0) && decide (x.f2.f1 = y.f2.f1)) && decide (x.f3 = y.f3)
theorem eqRw_iff (x y : Rw) : eqRw x y = true ↔ x = y := by
 unfold eqRw
 constructor
 ·intro h
  simp only [Bool.and_eq_true, decide_eq_true_eq] at h
  exact Rw.ext' h.1.1.1 h.1.1.2 (Tm.ext' h.1.2.1 h.1.2.2) h.2
 ·rintro rfl; simp
set_option maxRecDepth 100000 in
set_option maxHeartbeats 1000000 in
theorem laws_eqRow (x y : Rw) (w : World) : Calls Try.prog 114 #[.agg #[.int .i64 x.f0, .int .i64 x.f1, .int .i64 x.f2.f0, .int .i64 x.f2.f1, .int .i64 x.f3], .agg #[.int .i64 y.f0, .int .i64 y.f1, .int .i64 y.f2.f0, .int .i64 y.f2.f1, .int .i64 y.f3]] w (RetV w (.bool (eqRw x y))) := by
 have HB := Aside0.mk (Below.refl w.heap.size w)
 go_enter Try.func114, Try.ntmps114
 go_wp2_with (first | (go_at_call 161; refine (laws_eqTime _ _ _ _ _).mono ?_; rintro e w' ⟨rfl, hb⟩; replace HB := Aside0.mk (bthen (by repeat (first | exact HB.out | apply below_alloc)) hb); obtain ⟨hc, hf⟩ := bcell hb; have z0 : w.heap.size < w'.heap.size := (by have := hb.size; (try simp at this); omega); have z1 : w.heap.size + 1 < w'.heap.size := (by have := hb.size; (try simp at this); omega)))
 all_goals (go_ret; exact RetV.mk (by first | (simp_all [eqRw]; done) | (simp_all [eqRw]; intros; omega)) (by repeat (first | exact HB.out | apply below_alloc)))
def eqRwS : List Rw → List Rw → Bool
 | [], [] => true
 | x :: l, y :: m => eqRw x y && eqRwS l m
 | _, _ => false
theorem eqRwS_iff : ∀ l m : List Rw, eqRwS l m = true ↔ l = m
 | [], [] => by simp [eqRwS]
 | [], y :: m => by simp [eqRwS]
 | x :: l, [] => by simp [eqRwS]
 | x :: l, y :: m => by rw [eqRwS, Bool.and_eq_true, eqRw_iff, eqRwS_iff l m, List.cons.injEq]
theorem eqRwS_no {l m : List Rw} (h : l ≠ m) : eqRwS l m = false := by
 cases e : eqRwS l m with
 | false => rfl
 | true => exact absurd ((eqRwS_iff l m).1 e) h
theorem take_next {l m : List Rw} {k : Nat} {x : Rw} (h : l.take k = m.take k) (hx : l[k]? = some x) (hy : m[k]? = some x) : l.take (k + 1) = m.take (k + 1) := by
 rw [List.take_add_one, List.take_add_one, h, hx, hy]
set_option maxRecDepth 100000 in
set_option maxHeartbeats 1000000 in
theorem laws_eqRowS (v v2 : Value) (l m : List Rw) (w : World) (h : Sl kRw w v l) (h2 : Sl kRw w v2 m) : Calls Try.prog 51 #[v, v2] w (RetV w (.bool (eqRwS l m))) := by
 obtain ⟨A, c_, rfl, HC, hr⟩ := h
 have hm := Kd.C_max hr
 have HR := Aside0.mk hr
 clear hr
 obtain ⟨A2, c2_, rfl, HC2, hr2⟩ := h2
 have hm2 := Kd.C_max hr2
 have HR2 := Aside0.mk hr2
 clear hr2
 have HB := Aside0.mk (Below.refl w.heap.size w)
 go_enter Try.func51, Try.ntmps51
 by_cases hn : l.length = m.length
 ·go_wp2
  go_loopw [5] (fun i wr => ∃ k : Nat, k ≤ l.length ∧ i = .int .i64 k ∧ Aside0 (l.take k = m.take k) ∧ Aside0 (Below w.heap.size w wr)) (fun i _ => l.length - (intOf i).toNat)
  case atStart => exact ⟨0, Nat.zero_le _, rfl, ⟨by simp⟩, HB⟩
  case round =>
   obtain ⟨k, hk, rfl, HA, HB⟩ := hrel
   by_cases hlt : k < l.length
   ·obtain ⟨ad, x, e, HX, h0, h1, h2, h3, h4⟩ := rdRw HR.out HB.out hlt
    cases e
    have hlt2 : k < m.length := by omega
    obtain ⟨ad', y, e, HY, i0, i1, i2, i3, i4⟩ := rdRw HR2.out HB.out hlt2
    cases e
    go_wp2
    have q0 := fun u : Ext wr => Ext.cell h0 u
    have q1 := fun u : Ext wr => Ext.cell h1 u
    have q2 := fun u : Ext wr => Ext.cell h2 u
    have q3 := fun u : Ext wr => Ext.cell h3 u
    have q4 := fun u : Ext wr => Ext.cell h4 u
    have r0 := fun u : Ext wr => Ext.cell i0 u
    have r1 := fun u : Ext wr => Ext.cell i1 u
    have r2 := fun u : Ext wr => Ext.cell i2 u
    have r3 := fun u : Ext wr => Ext.cell i3 u
    have r4 := fun u : Ext wr => Ext.cell i4 u
    refine wp_region_ext (by kernel_rfl) (by kernel_rfl) ?_
    repeat (any_goals (first | go_big_quiet_step ((go_at_call 114; exact Calls.extV (laws_eqRow x y _))) | quiet_step ((go_at_call 114; exact Calls.extV (laws_eqRow x y _))) | (refine wpQuiet_step (fun K hK => ?_); go_simp; split <;> (refine hK _ ?_; clear hK K))))
    all_goals (refine wpQuiet_nil ?_; intro u)
    all_goals have HB2 := Aside0.mk (bthen HB.out u.bel)
    all_goals cases hq : eqRw x y with
     | true =>
      go_wp2
      go_roundw
      case rel => exact ⟨k + 1, by omega, by go_num, ⟨take_next HA.out HX.out (by rw [(eqRw_iff x y).1 hq]; exact HY.out)⟩, HB2⟩
      case measure => simp [intOf]; omega
     | false =>
      go_wp2
      go_ret
      exact RetV.mk (by rw [eqRwS_no (fun e => by subst e; have := HX.out.symm.trans HY.out; cases this; rw [(eqRw_iff x x).2 rfl] at hq; cases hq)]; rfl) HB2.out
   ·go_wp2
    go_ret
    exact RetV.mk (by rw [(eqRwS_iff l m).2 (by have := HA.out; rwa [List.take_of_length_le (by omega), List.take_of_length_le (by omega)] at this)]; rfl) HB.out
 ·have hn2 : ¬ (l.length : Int) = (m.length : Int) := by omega
  go_wp2
  go_ret
  exact RetV.mk (by rw [eqRwS_no (fun e => hn (by rw [e]))]; rfl) HB.out
end Go.Proofs.Ytkdendlgaaimbaa.X
namespace Go.Proofs.Ytkdendlgaaimbaa.X
open Go.RowKit Go.Proofs.YtkdendlgaaimbaaW.PrintWords
set_option linter.unusedVariables false
set_option linter.unusedSimpArgs false
def marksL (k : Int) : List (List Rw) → List (List Rw)
 | [] => []
 | l :: ls => marks k l.length :: marksL (k + 5 * (l.length : Int)) ls
theorem marksL_len : ∀ (ls : List (List Rw)) (k : Int), (marksL k ls).length = ls.length
 | [], _ => rfl
 | l :: ls, k => by rw [marksL, List.length_cons, marksL_len ls, List.length_cons]
theorem mass_snoc : ∀ (A : List (List Rw)) (l : List Rw), many (A ++ [l]) = many A + l.length
 | [], l => by simp [many]
 | a :: A, l => by rw [List.cons_append, many, many, mass_snoc A l]; omega
theorem marksL_snoc : ∀ (A : List (List Rw)) (l : List Rw) (k : Int), marksL k (A ++ [l]) = marksL k A ++ [marks (k + 5 * (many A : Int)) l.length]
 | [], l, k => by simp [marksL, many]
 | a :: A, l, k => by
  rw [List.cons_append, marksL, marksL, marksL_snoc A l, List.cons_append, many]
  congr 3
  have : k + 5 * (a.length : Int) + 5 * (many A : Int) = k + 5 * ((a.length + many A : Nat) : Int) := by omega
  rw [this]
theorem mass_take : ∀ (ls : List (List Rw)) (i : Nat) (h : i < ls.length), many (ls.take i) + (ls[i]).length ≤ many ls
 | [], i, h => by simp at h
 | l :: ls, 0, h => by simp [many]
 | l :: ls, i + 1, h => by
  have := mass_take ls i (by simpa using h)
  rw [List.take_succ_cons, many, many]
  simp only [List.getElem_cons_succ]
  omega
set_option maxRecDepth 100000 in
set_option maxHeartbeats 1000000 in
theorem laws_markRowSS (P0 : Nat → Prop) (v : Value) (ls : List (List Rw)) (k0 : Int) (w0 w : World) (hB : Below w0.heap.size w0 w) (h : Kd.S (Kd.slice 102 kRw) 27 w w0.heap.size P0 v ls) (hk0 : 0 ≤ k0) (hl : k0 + 5 * (many ls : Int) < 4611686018427387904) :
  Calls Try.prog 115 #[v, .int .i64 k0] w fun e w' => e = .returned (.int .i64 (k0 + 5 * (many ls : Int))) ∧ Kd.S (Kd.slice 102 kRw) 27 w' w0.heap.size P0 v (marksL k0 ls) ∧ Below w0.heap.size w0 w' ∧ Kept w w' P0 := by
 have HO := Aside0.mk h
 have HB := Aside0.mk hB
 have HK := Aside0.mk (Kept.refl w P0)
 clear hB h
 obtain ⟨A, c, rfl⟩ := Kd.S_slice HO.out
 have hmx := Kd.C_max (Kd.S_reads' HO.out).2.2
 go_enter Try.func115, Try.ntmps115
 go_wp2
 go_loopw [1, 5] (fun q i wr => ∃ k : Nat, k ≤ ls.length ∧ q = .int .i64 (k0 + 5 * (many (ls.take k) : Int)) ∧ i = .int .i64 k ∧ Aside0 (Kd.S (Kd.slice 102 kRw) 27 wr w0.heap.size P0 (.slice A ls.length c) (marksL k0 (ls.take k) ++ ls.drop k)) ∧ Aside0 (Below w0.heap.size w0 wr) ∧ Aside0 (Kept w wr P0)) (fun _ i _ => ls.length - (intOf i).toNat)
 case atStart => exact ⟨0, Nat.zero_le _, by simp [many], rfl, by simpa [marksL] using HO, HB, HK⟩
 case round =>
  obtain ⟨k, hk, rfl, rfl, HO1, HB, HK⟩ := hrel
  by_cases hlt : k < ls.length
  ·have hA : (marksL k0 (ls.take k)).length = k := by rw [marksL_len, List.length_take]; omega
   have hlen : (marksL k0 (ls.take k) ++ ls.drop k).length = ls.length := by rw [List.length_append, hA, List.length_drop]; omega
   obtain ⟨g, cap, e, hg1, hg2⟩ := Kd.S_form HO1.out (by rw [hlen]; omega)
   rw [hlen] at e
   cases e
   obtain ⟨oki, cs, hcl, hM, hcc, hoki, HH⟩ := Kd.S_lend HO1.out [] (k : Int) (by omega) (by omega)
   have hget : (marksL k0 (ls.take k) ++ ls.drop k).getD (k : Int).toNat [] = ls[k] := by
    rw [Int.toNat_natCast, List.getD_eq_getElem?_getD, List.getElem?_append_right (by omega), hA, Nat.sub_self, List.drop_eq_getElem_cons hlt]; rfl
   rw [hget] at hM
   obtain ⟨u, rfl, hu⟩ := hM
   have c0 : wr.cell? ⟨g, k, none⟩ = some u := by simpa [show (Kd.slice 102 kRw).sz = 1 from rfl] using hcc 0 u rfl
   have HU := Aside0.mk hu
   have HC := Aside0.mk HH
   have HI := Aside0.mk hoki
   have hm := mass_take ls k hlt
   clear hu HH hoki hcc hcl hget
   go_wp2_with (go_at_call 53; refine (laws_markRowS oki u ls[k] (k0 + 5 * (many (ls.take k) : Int)) w0 wr HB.out HU.out (by omega) (by omega)).mono ?_; rintro e w' ⟨rfl, ho, hb, hk2⟩; have HS := Aside0.mk (Kd.H_back (Kd.H_step HC.out (fun q _ hq hlt => hk2.2 q hlt hq)) (x' := marks (k0 + 5 * (many (ls.take k) : Int)) (ls[k]).length) (okp := oki) ⟨u, rfl, ho⟩ (fun _ hq => hq)); replace HB := Aside0.mk hb; replace HK := Aside0.mk (HK.out.then_ hk2 (fun q hq => .inl (HI.out q hq).1)); clear ho hb hk2)
   go_roundw
   case rel =>
    have ht : ls.take (k + 1) = ls.take k ++ [ls[k]] := by rw [List.take_add_one, List.getElem?_eq_getElem hlt]; rfl
    refine ⟨k + 1, by omega, ?_, by go_num, ⟨?_⟩, HB, HK⟩
    ·rw [ht, mass_snoc]; congr 1; omega
    ·have := HS.out
     rw [Int.toNat_natCast, set_mid _ _ _ _ hA hlt] at this
     rw [ht, marksL_snoc]
     exact this
   case measure => simp [intOf]; omega
  ·have hk' : k = ls.length := by omega
   subst hk'
   rw [List.take_of_length_le (Nat.le_refl _), List.drop_of_length_le (Nat.le_refl _), List.append_nil] at HO1
   rw [List.take_of_length_le (Nat.le_refl _)]
   go_wp2
   go_ret
   exact ⟨rfl, HO1.out, HB.out, HK.out⟩
def markT (k : Int) : Tm := ⟨k, k + 1⟩
def marksT (k : Int) (n : Nat) : List Tm := (List.range n).map fun i : Nat => markT (k + 2 * (i : Int))
theorem marksT_len (k : Int) (n : Nat) : (marksT k n).length = n := by simp [marksT]
theorem marksT_succ (k : Int) (n : Nat) : marksT k (n + 1) = marksT k n ++ [markT (k + 2 * (n : Int))] := by simp [marksT, List.range_succ]
section
variable {P : Program} {ops : Array Oper} {rest : List Oper} {o : Oper} {a : Act} {Q : Exit → Act → World → Prop}
theorem storeT {w0 W : World} {base : Nat} (hN : o.dst = none) (hgd : o.guard = none) {t : TypeId} {p x : Operand} (ho : o.op = .store t p x) {e g n cap o' : Nat} (k j : Nat) {xs : List Tm} (x0 x' : Tm) (u : Int) {ok : Nat → Prop}
  (haddr : a.eval p = .pointer (some ⟨g, o', none⟩)) (hoff : o' = k * 2 + j) (hu : a.eval x = .int .i64 u) (ht : (P.info? t).map (·.size) = some 1)
  (HO : kTm.R e W base ok (.slice (some ⟨g, 0, none⟩) n cap) (xs.set k x0)) (hi : k < n) (hl : k < xs.length) (hj : j < 2) (hx : vTm x' = (vTm x0).take j ++ [.int .i64 u] ++ (vTm x0).drop (j + 1)) (HB : Below base w0 W)
  (h : ∀ w1, kTm.R e w1 base ok (.slice (some ⟨g, 0, none⟩) n cap) (xs.set k x') → Below base w0 w1 → W.grownBy w1 (some g) → wpList P ops Q rest a w1) : wpList P ops Q (o :: rest) a W := by
 obtain ⟨c, hcl, hM, hcc, _⟩ := Kd.R_elem HO x0 (k : Int) (by omega) (by omega)
 simp only [Int.toNat_natCast] at hcc hM
 have e0 : (xs.set k x0).getD k x0 = x0 := by simp [List.getD, List.getElem?_set, hl]
 rw [e0] at hM
 have ec := kTm_M.1 hM
 subst ec
 refine Kd.R_store kTm base hN hgd t p x ho e (k : Int) j _ x' _ [.int .i64 u] (vTm x0) ok (fun _ => False) haddr (by rw [Int.toNat_natCast]; exact hoff) rfl (by rw [hu]; rfl) ht (fun q hq => by simp at hq; subst hq; rfl) HO (by omega) (by omega) hcl (by simpa using hcc) (by show j + 1 ≤ 2; omega) ?_ (fun _ hq => hq.elim) HB (by simpa using h)
 exact kTm_M.2 hx.symm
end
set_option maxRecDepth 100000 in
set_option maxHeartbeats 1000000 in
theorem laws_markTimeS (P0 : Nat → Prop) (v : Value) (l : List Tm) (k0 : Int) (w0 w : World) (hB : Below w0.heap.size w0 w) (h : kTm.R 43 w w0.heap.size P0 v l) (hk0 : 0 ≤ k0) (hl : k0 + 2 * (l.length : Int) < 4611686018427387904) : Calls Try.prog 116 #[v, .int .i64 k0] w fun e w' => e = .returned (.int .i64 (k0 + 2 * (l.length : Int))) ∧ kTm.R 43 w' w0.heap.size P0 v (marksT k0 l.length) ∧ Below w0.heap.size w0 w' ∧ Kept w w' P0 := by
 have HO := Aside0.mk h
 have HB := Aside0.mk hB
 have HK := Aside0.mk (Kept.refl w P0)
 clear hB h
 obtain ⟨A, c, rfl⟩ := Kd.R_slice HO.out
 go_enter Try.func116, Try.ntmps116
 go_wp2
 go_loopw [1, 5] (fun q i wr => ∃ k : Nat, k ≤ l.length ∧ q = .int .i64 (k0 + 2 * (k : Int)) ∧ i = .int .i64 k ∧ Aside0 (kTm.R 43 wr w0.heap.size P0 (.slice A l.length c) (marksT k0 k ++ l.drop k)) ∧ Aside0 (Below w0.heap.size w0 wr) ∧ Aside0 (Kept w wr P0)) (fun _ i _ => l.length - (intOf i).toNat)
 case atStart => exact ⟨0, Nat.zero_le _, by simp, rfl, by simpa [marksT] using HO, HB, HK⟩
 case round =>
  obtain ⟨k, hk, rfl, rfl, HO1, HB, HK⟩ := hrel
  by_cases hlt : k < l.length
  ·obtain ⟨g, cap, e, hg1, hg2⟩ := formR HO1.out (n := l.length) (by simp [marksT_len]; omega) (by omega)
   cases e
   have hlen : (marksT k0 k ++ l.drop k).length = l.length := by simp [marksT_len]; omega
   have w1 : IntKind.i64.wrap (k0 + 2 * (k : Int) + 1) = k0 + 2 * (k : Int) + 1 := wrapM (by omega) (by omega)
   have w2 : IntKind.i64.wrap (k0 + 2 * (k : Int) + 1 + 1) = k0 + 2 * (k : Int) + 2 := wrapM (by omega) (by omega)
   have hP : P0 g := HO1.out.1 _ rfl
   obtain ⟨x, hx⟩ : ∃ x, x = l[k] := ⟨_, rfl⟩
   have HN := Aside0.mk (show (marksT k0 k ++ l.drop k).set k x = marksT k0 k ++ l.drop k by rw [set_mid _ _ _ _ (marksT_len _ _) hlt, hx, List.append_assoc]; congr 1; exact (List.drop_eq_getElem_cons hlt).symm)
   rw [← HN.out] at HO1
   go_wp2_with (first | (refine storeT (w0 := w0) (base := w0.heap.size) rfl rfl rfl k 0 (x : Tm) (⟨k0 + 2 * (k : Int), x.f1⟩ : Tm) (k0 + 2 * (k : Int)) (by first | rfl | simp) (by first | rfl | omega) (by first | rfl | (simp [*]; done)) (by kernel_rfl) HO1.out hlt (by omega) (by decide) rfl HB.out ?_; intro wn ho hb2 hg_; have HO2 := Aside0.mk ho; replace HB := Aside0.mk hb2; replace HK := Aside0.mk (Kept.of_grown hg_ HK.out (fun q e_ => .inl (by cases e_; exact hP))); clear ho hb2 hg_) | (refine storeT (w0 := w0) (base := w0.heap.size) rfl rfl rfl k 1 (⟨k0 + 2 * (k : Int), x.f1⟩ : Tm) (⟨k0 + 2 * (k : Int), k0 + 2 * (k : Int) + 1⟩ : Tm) (k0 + 2 * (k : Int) + 1) (by first | rfl | simp) (by first | rfl | omega) (by first | rfl | (simp [*]; done)) (by kernel_rfl) HO2.out hlt (by omega) (by decide) rfl HB.out ?_; intro wn ho hb2 hg_; have HO3 := Aside0.mk ho; replace HB := Aside0.mk hb2; replace HK := Aside0.mk (Kept.of_grown hg_ HK.out (fun q e_ => .inl (by cases e_; exact hP))); clear ho hb2 hg_))
   refine ⟨⟨k + 1, by omega, ?_, ?_, ⟨?_⟩, HB, HK⟩, ?_⟩
   ·congr 1; omega
   ·rfl
   ·have := HO3.out
    rw [set_mid _ _ _ _ (marksT_len _ _) hlt] at this
    rw [marksT_succ]
    exact this
   ·simp [intOf]; omega
  ·go_wp2
   have hk' : k = l.length := by omega
   subst hk'
   go_ret
   exact ⟨rfl, by have := HO1.out; rw [List.drop_of_length_le (Nat.le_refl _), List.append_nil] at this; exact this, HB.out, HK.out⟩
set_option maxRecDepth 100000 in
set_option maxHeartbeats 1000000 in
theorem laws_markSpine (P0 P1 : Nat → Prop) (u v : Value) (ls : List (List Rw)) (f : List Tm) (k0 : Int) (w0 w : World) (hB : Below w0.heap.size w0 w) (h : Kd.S (Kd.slice 102 kRw) 27 w w0.heap.size P0 u ls) (h2 : kTm.R 43 w w0.heap.size P1 v f) (hap : ∀ q, P0 q → ¬ P1 q) (hk0 : 0 ≤ k0) (hl : k0 + 5 * (many ls : Int) + 2 * (f.length : Int) < 4611686018427387904) :
  Calls Try.prog 52 #[.agg #[u, v], .int .i64 k0] w fun e w' => e = .returned (.int .i64 (k0 + 5 * (many ls : Int) + 2 * (f.length : Int))) ∧ Kd.S (Kd.slice 102 kRw) 27 w' w0.heap.size P0 u (marksL k0 ls) ∧ kTm.R 43 w' w0.heap.size P1 v (marksT (k0 + 5 * (many ls : Int)) f.length) ∧ Below w0.heap.size w0 w' ∧ Kept w w' (fun q => P0 q ∨ P1 q) := by
 have HB := Aside0.mk hB
 have HS := Aside0.mk (Kd.S_mono (ok' := fun q => P0 q ∧ q < w.heap.size) (Kd.S_bound h) (fun q hq => ⟨hq.1, hq.2.2.1⟩))
 have HR := Aside0.mk (Kd.R_mono (ok' := fun q => P1 q ∧ q < w.heap.size) (Kd.R_bound h2) (fun q hq => ⟨hq.1, hq.2.2.1⟩))
 have hu : u.oneCell' = true := by obtain ⟨A, c, rfl⟩ := Kd.S_slice h; rfl
 have hv : v.oneCell' = true := by obtain ⟨A, c, rfl⟩ := Kd.R_slice h2; rfl
 obtain ⟨A, c, eu⟩ := Kd.S_slice h
 obtain ⟨A2, c2, ev⟩ := Kd.R_slice h2
 subst eu; subst ev
 clear hB h h2
 go_enter Try.func52, Try.ntmps52
 go_wp2_with (first
  | (go_at_call 115
     refine (laws_markRowSS (fun q => P0 q ∧ q < w.heap.size) _ ls k0 w0 _ (below_alloc HB.out _) (Kd.S_alloc HS.out _) hk0 (by omega)).mono ?_
     rintro e w1 ⟨rfl, hs, hb, hk⟩
     have hc1 := cell_kept (a := ⟨w.heap.size, 1, none⟩) (v := .slice A2 f.length c2) (by simp) hk (by simp)
     have HS1 := Aside0.mk hs
     have HR1 := Aside0.mk (Kd.R_kept (Kd.R_alloc HR.out _) hk (fun q hq hq2 => hap q hq2.1 hq.1))
     have HB1 := Aside0.mk hb
     have HK1 := Aside0.mk ((Kept.alloc (Kept.refl w (fun q => P0 q ∨ P1 q)) _).then_ hk (fun q hq => .inl (.inl hq.1)))
     clear hs hb hk)
  | (go_at_call 116
     refine (laws_markTimeS (fun q => P1 q ∧ q < w.heap.size) _ f (k0 + 5 * (many ls : Int)) w0 _ HB1.out HR1.out (by omega) (by omega)).mono ?_
     rintro e w2 ⟨rfl, hs, hb, hk⟩
     have HR2 := Aside0.mk hs
     have HS2 := Aside0.mk (Kd.S_kept HS1.out hk (fun q hq hq2 => hap q hq.1 hq2.1))
     have HB2 := Aside0.mk hb
     have HK2 := Aside0.mk (HK1.out.then_ hk (fun q hq => .inl (.inr hq.1)))
     clear hs hb hk))
 go_ret
 exact ⟨rfl, Kd.S_mono HS2.out (fun q hq => hq.1), Kd.R_mono HR2.out (fun q hq => hq.1), HB2.out, HK2.out⟩
end Go.Proofs.Ytkdendlgaaimbaa.X
namespace Go.Proofs.Ytkdendlgaaimbaa.X
open Go.RowKit Go.ChangeShapes Go.WideShapes Go.WideElems Go.Deep Go.Proofs.YtkdendlgaaimbaaW.PrintWords
set_option linter.unusedVariables false
set_option linter.unusedSimpArgs false
def Opens {α : Type} (t : TypeId) (d : Kd α) : Prop := ∀ (H : Type) (enc : TypeId × Value → H) (w : World) (base : Nat) (spare : Nat → Bool) (held : Bool) (fuel : Nat) (cs : List Value) (x : DataW H × List MemPlace),
 DataW.trod enc Try.prog w base spare held fuel t cs = some x → ∃ a : α, d.K w a cs
theorem cells1 : Try.prog.cellsOf 3 = 1 := by kernel_rfl
theorem opens_int {H : Type} {enc : TypeId × Value → H} {w : World} {base : Nat} {spare : Nat → Bool} {held : Bool} {fuel : Nat} {cs : List Value} {x : DataW H × List MemPlace}
  (h : DataW.trod enc Try.prog w base spare held fuel 3 cs = some x) : ∃ n, cs = [.int .i64 n] := by
 obtain ⟨n, h1, _, _⟩ := DataW.trod_int Try.underlying3 h
 exact ⟨n, h1⟩
theorem opens_slice {α : Type} {t e : TypeId} {d : Kd α} (ht : Try.prog.underlying t = some (.slice e)) (hc : Try.prog.cellsOf e = d.sz) (ho : Opens e d) : Opens t (Kd.slice e d) := by
 intro H enc w base spare held fuel cs x h
 rcases open_slice ht h with ⟨rfl, _⟩ | ⟨a, len, cap, m, n, D, Pl, rfl, _, hl, hm, hmm, _, hel⟩
 ·exact ⟨[], none, 0, rfl, Nat.le_refl _, Kd.C_nil d w⟩
 ·have hlm : len ≤ m := by rw [hmm]; split <;> omega
  have : ∀ i, ∃ xi : Option α, i < len → ∃ y, xi = some y ∧ ∃ cs', w.cells? base (a.add (i * Try.prog.cellsOf e)) (Try.prog.cellsOf e) = some cs' ∧ d.K w y cs' := fun i => by
   by_cases hi : i < len
   ·obtain ⟨cs', h1, h2⟩ := hel i (by omega)
    obtain ⟨y, hy⟩ := ho _ _ _ _ _ _ _ _ _ h2
    exact ⟨some y, fun _ => ⟨y, rfl, cs', h1, hy⟩⟩
   ·exact ⟨none, fun h => absurd h hi⟩
  let f : Nat → Option α := fun i => (this i).choose
  have hf : ∀ i, i < len → ∃ y, f i = some y ∧ ∃ cs', w.cells? base (a.add (i * Try.prog.cellsOf e)) (Try.prog.cellsOf e) = some cs' ∧ d.K w y cs' := fun i hi => (this i).choose_spec hi
  have hxs : ∀ l, l ≤ len → ∃ xs : List α, xs.length = l ∧ ∀ j, j < l → xs[j]? = f j := fun l => by
   induction l with
   | zero => exact fun _ => ⟨[], rfl, fun j h => by omega⟩
   | succ l ih =>
    intro hl'
    obtain ⟨xs, h1, h2⟩ := ih (by omega)
    obtain ⟨y, hy, _⟩ := hf l (by omega)
    refine ⟨xs ++ [y], by simp [h1], fun j hj => ?_⟩
    by_cases hjl : j < l
    ·rw [List.getElem?_append_left (by omega)]; exact h2 j hjl
    ·have : j = l := by omega
     subst this
     rw [List.getElem?_append_right (by omega), h1, Nat.sub_self, hy]; rfl
  obtain ⟨xs, h1, h2⟩ := hxs len (Nat.le_refl _)
  have hmx : maxLen = 9223372036854775807 := by decide
  have hmax : xs.length ≤ 9223372036854775807 := by omega
  refine ⟨xs, some a, cap, by rw [h1], by omega, rfl, hmax, fun _ => ⟨a, rfl, fun j p hj => ?_⟩⟩
  have hjl : j < len := by have := (List.getElem?_eq_some_iff.1 hj).1; omega
  obtain ⟨y, hy, cs', hcs, hK⟩ := hf j hjl
  have hp : p = y := by have := h2 j hjl; rw [hj, hy] at this; exact Option.some.inj this
  subst hp
  obtain ⟨_, hlen, hcell⟩ := World.cells?_some hcs
  refine ⟨cs', d.K_len hK, hK, fun i u hu => ?_⟩
  have hi : i < cs'.length := (List.getElem?_eq_some_iff.1 hu).1
  have := hcell i (by omega)
  rw [Go.Deep.add_add, hc] at this
  rw [this, hu]
theorem okWide_slice' {P : Program} {w : World} {r : Reach} {base : Nat} {t e : TypeId} {v : Value} (ht : P.underlying t = some (.slice e)) (h : Value.okWide P w r base t v) : ∃ a len cap, v = .slice a len cap := okWide_slice ht h
set_option maxRecDepth 100000 in
theorem arg_slice {α : Type} {H : Type} {enc : TypeId × Value → H} {w : World} {base b0 : Nat} {spare : Nat → Bool} {held : Bool} {r : Reach} {t e : TypeId} {d : Kd α} {v : Value} {x : DataW H} {p : List MemPlace} (ht : Try.prog.underlying t = some (.slice e)) (ho : Opens t (Kd.slice e d))
  (hv : Value.okWide Try.prog w r b0 t v) (h : DataW.Trod enc Try.prog w base spare held t v x p) : ∃ l, Sl d w v l := by
 obtain ⟨a, len, cap, rfl⟩ := okWide_slice' (P := Try.prog) ht hv
 obtain ⟨fuel, hf⟩ := h
 obtain ⟨l, A, c, h1, h2, h3⟩ := ho _ _ _ _ _ _ _ _ _ hf
 exact ⟨l, A, c, by simpa [Value.cells] using h1, h2, h3⟩
theorem inner_max {α : Type} {d : Kd α} {e : Nat} {w : World} {A : Option Addr} {n : Nat} {ls : List (List α)} (h : (Kd.slice e d).C w A n ls) : ∀ x ∈ ls, x.length ≤ 9223372036854775807 := by
 intro x hx
 obtain ⟨i, hi, rfl⟩ := List.getElem_of_mem hx
 obtain ⟨ad, _, hc⟩ := h.2.2 (by have := h.1; omega)
 obtain ⟨cs, _, ⟨A1, c1, _, _, h3⟩, _⟩ := hc i _ (List.getElem?_eq_getElem hi)
 exact h3.2.1
set_option maxRecDepth 100000 in
theorem cellsTm : Try.prog.cellsOf 130 = 2 := by kernel_rfl
set_option maxRecDepth 100000 in
theorem opens_Tm : Opens 130 kTm := by
 intro H enc w base spare held fuel cs x h
 obtain ⟨y0, y1, n, _, hl, h0, h1⟩ := trod_struct2 Try.underlying130 h
 simp only [cells1] at h0 h1
 rw [cellsTm] at hl
 obtain ⟨n0, e0⟩ := opens_int h0
 obtain ⟨n1, e1⟩ := opens_int h1
 match cs, hl with
 | [c0, c1], _ =>
  simp at e0 e1
  exact ⟨⟨n0, n1⟩, kTm_K.2 (by rw [e0, e1]; rfl)⟩
theorem opens_TmS : Opens 70 (Kd.slice 130 kTm) := opens_slice Try.underlying70 cellsTm opens_Tm
set_option maxRecDepth 100000 in
theorem cellsRw : Try.prog.cellsOf 132 = 5 := by kernel_rfl
set_option maxRecDepth 100000 in
theorem opens_Rw : Opens 132 kRw := by
 intro H enc w base spare held fuel cs x h
 obtain ⟨y0, y1, y2, y3, n, _, hl, h0, h1, h2, h3⟩ := Go.Joins.trod_struct4 Try.underlying132 h
 simp only [cells1, cellsTm] at h0 h1 h2 h3
 rw [cellsRw] at hl
 obtain ⟨n0, e0⟩ := opens_int h0
 obtain ⟨n1, e1⟩ := opens_int h1
 obtain ⟨t, e2⟩ := opens_Tm _ _ _ _ _ _ _ _ _ h2
 obtain ⟨n3, e3⟩ := opens_int h3
 match cs, hl with
 | [c0, c1, c2, c3, c4], _ =>
  rw [kTm_K] at e2
  simp [vTm] at e0 e1 e2 e3
  exact ⟨⟨n0, n1, t, n3⟩, kRw_K.2 (by rw [e0, e1, e2.1, e2.2, e3]; rfl)⟩
theorem opens_RwS : Opens 73 (Kd.slice 132 kRw) := opens_slice Try.underlying73 cellsRw opens_Rw
theorem opens_RwSS : Opens 69 (Kd.slice 73 (Kd.slice 132 kRw)) := opens_slice Try.underlying69 (by kernel_rfl) opens_RwS
set_option maxRecDepth 100000 in
theorem arg_spine {H : Type} {enc : TypeId × Value → H} {w : World} {base b0 : Nat} {spare : Nat → Bool} {held : Bool} {r : Reach} {v : Value} {x : DataW H} {p : List MemPlace}
  (hv : Value.okWide Try.prog w r b0 72 v) (h : DataW.Trod enc Try.prog w base spare held 72 v x p) : ∃ v0 v1 ls f, v = .agg #[v0, v1] ∧ Sl (Kd.slice 132 kRw) w v0 ls ∧ Sl kTm w v1 f := by
 obtain ⟨v0, v1, y0, y1, n, rfl, _, _, h0, h1⟩ := Go.Joins.open_agg2 Try.underlying72 (by kernel_rfl) (by kernel_rfl) hv h
 obtain ⟨ls, A, c, e, h2, h3⟩ := opens_RwSS _ _ _ _ _ _ _ _ _ h0
 obtain ⟨f, A1, c1, e1, h4, h5⟩ := opens_TmS _ _ _ _ _ _ _ _ _ h1
 simp at e e1
 exact ⟨v0, v1, ls, f, rfl, ⟨A, c, e, h2, h3⟩, ⟨A1, c1, e1, h4, h5⟩⟩
end Go.Proofs.Ytkdendlgaaimbaa.X
