/- Conditions: none. -/
import Derived.Test.YtkdendlgaaimbaaProg
import Derived.Test.YtkdendlgaaimbaaVAWords
import Derived.Test.YtkdendlgaaimbaaVAApart
import Derived.StillTailTactics
import Derived.Test.YtkdendlgaaimbaaYCPl
import Derived.Test.YtkdendlgaaimbaaYQPl
import Derived.Lib.Hide
import Derived.Laws.BitsLemmas
import Derived.Laws.CopyRow
import Derived.Laws.CopyOwn
import Derived.Test.YtkdendlgaaimbaaVAKept
import Derived.Lib.SmallJoins
import Derived.Test.YtkdendlgaaimbaaYCBs
namespace Go.Proofs.Ytkdendlgaaimbaa.X
open Go.RowKit Go.Proofs.YtkdendlgaaimbaaW.PrintWords
instance (w : World) : Nonempty (Ext w) := ⟨Ext.drew1 w⟩
theorem ret_bool {a b : Bool} (h : a = b) : Ending.returned (.bool a) = .returned (.bool b) := by rw [h]
theorem vbool {a b : Bool} (h : a = true ↔ b = true) : Value.bool a = .bool b := by rw [Bool.eq_iff_iff.2 h]
theorem drop_cons {α : Type} {l : List α} {k : Nat} {x : α} (hx : l[k]? = some x) : l.drop k = x :: l.drop (k + 1) := by
 obtain ⟨hlt, rfl⟩ := List.getElem?_eq_some_iff.1 hx
 exact List.drop_eq_getElem_cons hlt
theorem all_take_succ {α : Type} {p : α → Bool} {l : List α} {k : Nat} {x : α} (h : (l.take k).all p = true) (hx : l[k]? = some x) (hp : p x = true) : (l.take (k + 1)).all p = true := by
 rw [take_snoc hx, List.all_append, h]; simp [hp]
theorem all_bad {α : Type} {p : α → Bool} {l : List α} {k : Nat} {x : α} (hx : l[k]? = some x) (hp : p x = false) : l.all p = false := by
 obtain ⟨hlt, rfl⟩ := List.getElem?_eq_some_iff.1 hx
 exact List.all_eq_false.2 ⟨_, List.getElem_mem hlt, by simp [hp]⟩
theorem all_done {α : Type} {p : α → Bool} {l : List α} {k : Nat} (h : (l.take k).all p = true) (hk : ¬ k < l.length) : l.all p = true := by rwa [List.take_of_length_le (by omega)] at h
def kB : Kd Int := Kd.int .u8
def kI : Kd Int := Kd.int .i64
section
variable {α : Type} {d : Kd α} {e : Nat} {w w1 wr : World} {base : Nat} {ok : Nat → Prop} {v : Value} {xs : List α} {A : Option Addr} {c : Nat}
theorem Sl.of_R (h : d.R e w base ok v xs) : Sl d w v xs := by obtain ⟨A, c, h1, h2, h3⟩ := Kd.R_reads h; exact ⟨A, c, h1, h2, h3⟩
theorem Sl.below (h : Sl d w v xs) (hb : Below w.heap.size w w1) : Sl d w1 v xs := by obtain ⟨A, c, h1, h2, h3⟩ := h; exact ⟨A, c, h1, h2, Kd.C_below h3 hb⟩
theorem Sl.nil (d : Kd α) (w : World) : Sl d w (.slice none 0 0) [] := ⟨none, 0, rfl, Nat.le_refl _, Kd.C_nil d w⟩
end
section
variable {w wr : World} {A : Option Addr} {k : Nat}
theorem rdSl {α : Type} {d : Kd α} {e : Nat} {xs : List (List α)} (h : (Kd.slice e d).C w A xs.length xs) (hb : Below w.heap.size w wr) (hk : k < xs.length) : ∃ ad x A1 c1, A = some ad ∧ Aside0 (xs[k]? = some x) ∧ wr.cell? (ad.add k) = some (.slice A1 x.length c1) ∧ Aside0 (Sl d wr (.slice A1 x.length c1) x) := by
 obtain ⟨ad, x, cs, e, hx, ⟨A1, c1, rfl, h2, h3⟩, hc⟩ := cget h hb hk
 have h0 := hc 0 _ rfl
 rw [Nat.add_zero, show (Kd.slice _ d).sz = 1 from rfl, Nat.mul_one] at h0
 exact ⟨ad, x, A1, c1, e, ⟨hx⟩, h0, ⟨⟨A1, c1, rfl, h2, h3⟩⟩⟩
theorem rdB {xs : List Int} (h : kB.C w A xs.length xs) (hb : Below w.heap.size w wr) (hk : k < xs.length) : ∃ ad x, A = some ad ∧ Aside0 (xs[k]? = some x) ∧ wr.cell? (ad.add k) = some (.int .u8 x) := by
 obtain ⟨ad, x, cs, e, hx, hK, hc⟩ := cget h hb hk
 obtain rfl : cs = [.int .u8 x] := hK
 have h0 := hc 0 _ rfl
 rw [Nat.add_zero, show kB.sz = 1 from rfl, Nat.mul_one] at h0
 exact ⟨ad, x, e, ⟨hx⟩, h0⟩
end
section
variable {w wr : World} {A : Option Addr} {k : Nat}
theorem rdI {xs : List Int} (h : kI.C w A xs.length xs) (hb : Below w.heap.size w wr) (hk : k < xs.length) : ∃ ad x, A = some ad ∧ Aside0 (xs[k]? = some x) ∧ wr.cell? (ad.add k) = some (.int .i64 x) := by
 obtain ⟨ad, x, cs, e, hx, hK, hc⟩ := cget h hb hk
 obtain rfl : cs = [.int .i64 x] := hK
 have h0 := hc 0 _ rfl
 rw [Nat.add_zero, show kI.sz = 1 from rfl, Nat.mul_one] at h0
 exact ⟨ad, x, e, ⟨hx⟩, h0⟩
end
theorem litI (W : World) (xs : List Int) (t : TypeId) (hx : xs.length ≤ 1000) : kI.C (W.alloc (.cells (xs.map (Value.int .i64)).toArray t)) (some ⟨W.heap.size, 0, none⟩) xs.length xs := by
 refine ⟨rfl, by omega, fun _ => ⟨_, rfl, fun j p hj => ⟨[.int .i64 p], rfl, rfl, fun i u hu => ?_⟩⟩⟩
 have hi : i = 0 := by have := (List.getElem?_eq_some_iff.1 hu).1; simp at this; omega
 subst hi
 have : u = .int .i64 p := by simpa using hu.symm
 subst this
 rw [Nat.add_zero, show kI.sz = 1 from rfl, Nat.mul_one, add_plain, blk_cell (blk_new W _)]
 simp [hj]
section
variable {P : Program} {ops : Array Oper} {rest : List Oper} {o : Oper} {a : Act} {Q : Exit → Act → World → Prop} {α : Type}
end
section
variable {P : Program} {ops : Array Oper} {rest : List Oper} {o : Oper} {a : Act} {Q : Exit → Act → World → Prop} {α : Type}
end
theorem formR {α : Type} {d : Kd α} {e : Nat} {w : World} {base : Nat} {ok : Nat → Prop} {v : Value} {xs : List α} {n : Nat} (h : d.R e w base ok v xs) (hn : xs.length = n) (hp : 0 < n) : ∃ g cap, v = .slice (some ⟨g, 0, none⟩) n cap ∧ base ≤ g ∧ g < w.heap.size := by
 subst hn
 obtain ⟨g, cap, h1, h2, h3, _⟩ := Kd.R_form h hp
 exact ⟨g, cap, h1, h2, h3⟩
theorem ret_cell {P : Program} {fn : Func} {R : Ending → World → Prop} {a : Act} {w : World} {p : Tmp} {ty : TypeId} {g : Nat} {cs : Array Value} {d : TypeDesc} (h : fn.results = #[.cell p ty]) (hp : a.tmps.getD p undef = .pointer (some ⟨g, 0, none⟩)) (hd : a.defers = [])
  (hg : w.heap[g]? = some (.cells cs ty (0, 0))) (hu : P.underlying ty = some d) (hk : (match d with | .struct _ | .array _ _ => true | _ => false) = true) (hi : (P.info? ty).map (·.size) = some cs.size) (hR : R (.returned (.agg cs)) w) : bodyPost P fn R .ret a w :=
 bodyPost_ret (results_cell_row h _ _ g ty cs (0, 0) d hp hg hu hk hi) hd hR
theorem blk3 {w : World} {g : Nat} {t : TypeId} {z0 z1 z2 : Value} (h : w.heap[g]? = some (.cells #[z0, z1, z2] t (0, 0))) (u0 u1 u2 : Value) : (((w.setCell ⟨g, 0, none⟩ u0).setCell ⟨g, 1, none⟩ u1).setCell ⟨g, 2, none⟩ u2).heap[g]? = some (.cells #[u0, u1, u2] t (0, 0)) := by simpa using blk_set (blk_set (blk_set h 0 u0) 1 u1) 2 u2
theorem infoItS : (Try.prog.info? 46).map (fun i => (i.zero, i.size, i.bytes)) = some (some (.slice none 0 0), 1, 24) := by kernel_rfl
section
variable {ops : Array Oper} {rest : List Oper} {o : Oper} {a : Act} {Q : Exit → Act → World → Prop}
theorem appsIt {w0 W : World} {base : Nat} {s x : Operand} {xs ys : List It} {ok : Nat → Prop} (hgd : o.guard = none)
  (ho : o.op = .call { callee := .builtin .append, args := #[s, x], argTypes := #[46, 46] })
  (HS : Sl kIt W (a.eval x) ys) (HO : kIt.R 118 W base ok (a.eval s) xs) (hfresh : ∀ k, W.heap.size ≤ k → ok k) (HB : Below base w0 W) (hbase : base ≤ W.heap.size) (hl : xs.length + ys.length < 3518437208000)
  (h : ∀ v1 w1, kIt.R 118 w1 base ok v1 (xs ++ ys) → Below base w0 w1 → W.grownBy w1 (a.eval s).ownBlock → ((v1.ownBlock = (a.eval s).ownBlock) ∨ ∃ b, v1.ownBlock = some b ∧ W.heap.size ≤ b) → wpList Try.prog ops Q rest (a.put o.dst v1) w1) :
  wpList Try.prog ops Q (o :: rest) a W := by
 obtain ⟨A, c, hv, hc, hC⟩ := HS
 exact Kd.R_append_rows kIt (w0 := w0) base hgd s x 46 118 (.agg #[.int .i64 0, .int .i64 0, .int .i64 0]) 24 ho Try.underlying46 infoIt rfl (by decide) (by omega) _ xs ys A _ c ok (fun _ => False) rfl hv HO hC (fun _ _ hk => kIt_M.2 (kIt_K.1 hk)) (fun _ hk => hk.elim) hfresh HB hbase (by omega) h
end
theorem RetR.mk {α : Type} {d : Kd α} {e : Nat} {w w' : World} {xs : List α} {v : Value} (h : d.R e w' w.heap.size okT v xs) (hb : Below w.heap.size w w') : RetR d e w xs (.returned v) w' := ⟨v, rfl, h, hb⟩
end Go.Proofs.Ytkdendlgaaimbaa.X
namespace Go.Proofs.Ytkdendlgaaimbaa.X
open Go.RowKit Go.Proofs.YtkdendlgaaimbaaW.PrintWords
set_option linter.unusedVariables false
set_option linter.unusedSimpArgs false
set_option maxRecDepth 100000 in
set_option maxHeartbeats 400000 in
theorem spec_l6In (n lo hi : Int) (w : World) : Calls Try.prog 94 #[.int .i64 n, .int .i64 lo, .int .i64 hi] w fun e w' => e = .returned (.bool (decide (lo ≤ n) && decide (n ≤ hi))) ∧ w = w' := by
 have HB := Aside0.mk (Below.refl w.heap.size w)
 go_enter Try.func94, Try.ntmps94
 go_wp2
 all_goals (go_ret; exact ⟨ret_bool (by first | (simp [*]; done) | (simp [*]; omega)), rfl⟩)
set_option maxRecDepth 100000 in
set_option maxHeartbeats 400000 in
theorem spec_TimeOk (a b : Int) (w : World) : Calls Try.prog 29 #[.agg #[.int .i64 a, .int .i64 b]] w (RetV w (.bool (tOk ⟨a, b⟩))) := by
 have HB := Aside0.mk (Below.refl w.heap.size w)
 go_enter Try.func29, Try.ntmps29
 go_wp2_with (go_at_call 94; refine (spec_l6In _ _ _ _).mono ?_; rintro e w' ⟨rfl, rfl⟩)
 all_goals (go_ret; exact RetV.mk (by simp_all [tOk] <;> omega) (by repeat (first | exact HB.out | apply below_alloc)))
set_option maxRecDepth 100000 in
set_option maxHeartbeats 400000 in
theorem spec_TimeLess (a b c d : Int) (w : World) : Calls Try.prog 137 #[.agg #[.int .i64 a, .int .i64 b], .agg #[.int .i64 c, .int .i64 d]] w (RetV w (.bool (tLess ⟨a, b⟩ ⟨c, d⟩))) := by
 have HB := Aside0.mk (Below.refl w.heap.size w)
 go_enter Try.func137, Try.ntmps137
 go_wp2_with (first | (go_at_call 29; refine (spec_TimeOk _ _ _).mono ?_; rintro e w' ⟨rfl, hb⟩; replace HB := Aside0.mk (bthen (by repeat (first | exact HB.out | apply below_alloc)) hb); obtain ⟨hc, hf⟩ := bcell hb; have z0 : w.heap.size < w'.heap.size := (by have := hb.size; (try simp at this); omega); have z1 : w.heap.size + 1 < w'.heap.size := (by have := hb.size; (try simp at this); omega)))
 all_goals (go_ret; exact RetV.mk (by simp_all [tLess, below] <;> omega) (by repeat (first | exact HB.out | apply below_alloc)))
end Go.Proofs.Ytkdendlgaaimbaa.X
namespace Go.Proofs.Ytkdendlgaaimbaa.X
open Go.RowKit Go.Proofs.YtkdendlgaaimbaaW.PrintWords
set_option linter.unusedVariables false
set_option linter.unusedSimpArgs false
end Go.Proofs.Ytkdendlgaaimbaa.X
namespace Go.Proofs.Ytkdendlgaaimbaa.X
open Go.RowKit Go.Proofs.YtkdendlgaaimbaaW.PrintWords
set_option linter.unusedVariables false
set_option linter.unusedSimpArgs false
set_option maxRecDepth 100000 in
set_option maxHeartbeats 1000000 in
theorem spec_l2Row (x : Rw) (w : World) : Calls Try.prog 173 #[.agg #[.int .i64 x.f0, .int .i64 x.f1, .int .i64 x.f2.f0, .int .i64 x.f2.f1, .int .i64 x.f3]] w (RetV w (.bool (rowOk x))) := by
 have HB := Aside0.mk (Below.refl w.heap.size w)
 go_enter Try.func173, Try.ntmps173
 go_wp2_with (first | (go_at_call 94; refine (spec_l6In _ _ _ _).mono ?_; rintro e w' ⟨rfl, rfl⟩) | (go_at_call 29; refine (spec_TimeOk _ _ _).mono ?_; rintro e w' ⟨rfl, hb⟩; replace HB := Aside0.mk (bthen (below_alloc HB.out _) hb); obtain ⟨hc, hf⟩ := bcell hb))
 all_goals (go_ret; refine RetV.mk (vbool ?_) (by repeat (first | exact HB.out | apply below_alloc)); (first | (simp_all [rowOk]; done) | (simp_all [rowOk]; omega) | (simp_all [rowOk]; intros; omega)))
set_option maxRecDepth 100000 in
set_option maxHeartbeats 1000000 in
theorem spec_l2Comp (a b : Rw) (w : World) : Calls Try.prog 136 #[.agg #[.int .i64 a.f0, .int .i64 a.f1, .int .i64 a.f2.f0, .int .i64 a.f2.f1, .int .i64 a.f3], .agg #[.int .i64 b.f0, .int .i64 b.f1, .int .i64 b.f2.f0, .int .i64 b.f2.f1, .int .i64 b.f3]] w (RetV w (.int .i64 (comp a b))) := by
 rw [comp_lexi]
 obtain ⟨xs, hxs⟩ : ∃ xs, xs = [a.f0, a.f1, a.f2.f0, a.f2.f1] := ⟨_, rfl⟩
 obtain ⟨ys, hys⟩ : ∃ ys, ys = [b.f0, b.f1, b.f2.f0, b.f2.f1] := ⟨_, rfl⟩
 rw [← hxs, ← hys]
 have HXS := Lib.hid hxs
 have HYS := Lib.hid hys
 clear hxs hys
 have HB := Aside0.mk (Below.refl w.heap.size w)
 go_enter Try.func136, Try.ntmps136
 go_wp2
 refine name_world fun W hW => ?_
 have hb : Below w.heap.size w W := hW ▸ (by repeat (first | exact Below.refl _ _ | apply below_alloc))
 have HX := Aside0.mk (show kI.C W (some ⟨w.heap.size + 1 + 1, 0, none⟩) 4 [a.f0, a.f1, a.f2.f0, a.f2.f1] from (by rw [hW]; exact Kd.C_alloc (by simpa using litI ((w.alloc _).alloc _) [a.f0, a.f1, a.f2.f0, a.f2.f1] 3 (by simp)) _))
 have HY := Aside0.mk (show kI.C W (some ⟨w.heap.size + 1 + 1 + 1, 0, none⟩) 4 [b.f0, b.f1, b.f2.f0, b.f2.f1] from (by rw [hW]; simpa using litI (((w.alloc _).alloc _).alloc _) [b.f0, b.f1, b.f2.f0, b.f2.f1] 3 (by simp)))
 rw [← HXS.out] at HX
 rw [← HYS.out] at HY
 have HLX := Lib.hid (show xs.length = 4 by rw [HXS.out]; rfl)
 have HLY := Lib.hid (show ys.length = 4 by rw [HYS.out]; rfl)
 clear hW HXS HYS
 replace HB := Aside0.mk hb
 clear hb
 go_loopw [7] (fun i wr => ∃ k : Nat, k ≤ 4 ∧ i = .int .i64 k ∧ Aside0 (lexi xs ys = lexi (xs.drop k) (ys.drop k)) ∧ Aside0 (Below W.heap.size W wr)) (fun i _ => 4 - (intOf i).toNat)
 case atStart => exact ⟨0, Nat.zero_le _, rfl, ⟨rfl⟩, ⟨Below.refl _ _⟩⟩
 case round =>
  obtain ⟨k, hk, rfl, HA, HB1⟩ := hrel
  by_cases hlt : k < 4
  ·obtain ⟨ad, x, e, HX1, h0⟩ := rdI (by rw [HLX.out]; exact HX.out) HB1.out (k := k) (by rw [HLX.out]; exact hlt)
   cases e
   obtain ⟨ad, y, e, HY1, h1⟩ := rdI (by rw [HLY.out]; exact HY.out) HB1.out (k := k) (by rw [HLY.out]; exact hlt)
   cases e
   rw [add_plain] at h0 h1
   have q0 := fun u => Ext.cell h0 u
   have q1 := fun u => Ext.cell h1 u
   have HA2 := Aside0.mk (show lexi xs ys = (if x < y then -1 else if x > y then 1 else lexi (xs.drop (k + 1)) (ys.drop (k + 1))) from (by rw [HA.out, drop_cons HX1.out, drop_cons HY1.out]; rfl))
   by_cases c1 : x < y
   ·go_wp2
    refine wp_region_ext (by kernel_rfl) (by kernel_rfl) ?_
    repeat (any_goals (first | go_big_quiet_step (fail) | quiet_step (fail) | (refine wpQuiet_step (fun K hK => ?_); go_simp; split <;> (refine hK _ ?_; clear hK K))))
    all_goals (refine wpQuiet_nil ?_; intro u)
    all_goals go_wp2
    go_ret
    exact RetV.mk (by rw [HA2.out, if_pos c1]; rfl) (bthen HB.out (bthen HB1.out u.bel))
   ·go_wp2
    refine wp_region_ext (by kernel_rfl) (by kernel_rfl) ?_
    repeat (any_goals (first | go_big_quiet_step (fail) | quiet_step (fail) | (refine wpQuiet_step (fun K hK => ?_); go_simp; split <;> (refine hK _ ?_; clear hK K))))
    all_goals (refine wpQuiet_nil ?_; intro u)
    all_goals go_wp2
    have HB2 := Aside0.mk (bthen HB1.out u.bel)
    replace q0 := q0 u
    replace q1 := q1 u
    have p0 := fun u => Ext.cell q0 u
    have p1 := fun u => Ext.cell q1 u
    clear h0 h1
    by_cases c2 : y < x
    ·
     refine wp_region_ext (by kernel_rfl) (by kernel_rfl) ?_
     repeat (any_goals (first | go_big_quiet_step (fail) | quiet_step (fail) | (refine wpQuiet_step (fun K hK => ?_); go_simp; split <;> (refine hK _ ?_; clear hK K))))
     all_goals (refine wpQuiet_nil ?_; intro u2)
     all_goals go_wp2
     go_ret
     exact RetV.mk (by rw [HA2.out, if_neg (by omega), if_pos c2]; rfl) (bthen HB.out (bthen HB2.out u2.bel))
    ·
     refine wp_region_ext (by kernel_rfl) (by kernel_rfl) ?_
     repeat (any_goals (first | go_big_quiet_step (fail) | quiet_step (fail) | (refine wpQuiet_step (fun K hK => ?_); go_simp; split <;> (refine hK _ ?_; clear hK K))))
     all_goals (refine wpQuiet_nil ?_; intro u2)
     all_goals go_wp2
     go_roundw
     case rel => exact ⟨k + 1, by omega, by go_num, ⟨by rw [HA2.out, if_neg (by omega), if_neg (by omega)]⟩, ⟨bthen HB2.out u2.bel⟩⟩
     case measure => simp [intOf]; omega
  ·go_wp2
   go_ret
   exact RetV.mk (by show Value.int _ _ = _; rw [HA.out, List.drop_of_length_le (by rw [HLX.out]; omega)]; rfl) (bthen HB.out HB1.out)
end Go.Proofs.Ytkdendlgaaimbaa.X
namespace Go.Proofs.Ytkdendlgaaimbaa.X
open Go.RowKit Go.Proofs.YtkdendlgaaimbaaW.PrintWords
set_option linter.unusedVariables false
set_option linter.unusedSimpArgs false
set_option maxRecDepth 100000 in
set_option maxHeartbeats 1000000 in
theorem spec_RowsOk (v : Value) (l : List Rw) (w : World) (h : Sl kRw w v l) : Calls Try.prog 135 #[v] w (RetV w (.bool (rowsOk l))) := by
 obtain ⟨A, c_, rfl, HC, hr⟩ := h
 have hm := Kd.C_max hr
 have HR := Aside0.mk hr
 clear hr
 by_cases hl : 400 < l.length
 ·
  have HB := Aside0.mk (Below.refl w.heap.size w)
  go_enter Try.func135, Try.ntmps135
  go_wp2
  go_ret
  exact RetV.mk (by simp [rowsOk]; intro _; omega) HB.out
 ·
  have hl' : ¬ (400 < (l.length : Int)) := by omega
  have HB := Aside0.mk (Below.refl w.heap.size w)
  go_enter Try.func135, Try.ntmps135
  go_wp2
  go_loopw [3] (fun i wr => ∃ k : Nat, k ≤ l.length ∧ i = .int .i64 k ∧ Aside0 ((l.take k).all rowOk = true) ∧ Aside0 (Below w.heap.size w wr)) (fun i _ => l.length - (intOf i).toNat)
  case atStart => exact ⟨0, Nat.zero_le _, rfl, ⟨by simp⟩, HB⟩
  case round =>
   obtain ⟨k, hk, rfl, HA, HB⟩ := hrel
   by_cases hlt : k < l.length
   ·obtain ⟨ad, x, e, HX, h0, h1, h2, h3, h4⟩ := rdRw HR.out HB.out hlt
    cases e
    go_wp2_with (go_at_call 173; refine (spec_l2Row x _).mono ?_; rintro e w' ⟨rfl, hb⟩; replace HB := Aside0.mk (bthen HB.out hb))
    all_goals first
     | (go_roundw
        case rel => exact ⟨k + 1, by omega, by go_num, ⟨all_take_succ HA.out HX.out (by simp_all)⟩, HB⟩
        case measure => simp [intOf]; omega)
     | (go_ret; exact RetV.mk (by rw [rowsOk, all_bad HX.out (by simp_all)]; rfl) HB.out)
   ·go_wp2
    go_ret
    exact RetV.mk (by rw [rowsOk, all_done HA.out hlt]; simp; omega) HB.out
end Go.Proofs.Ytkdendlgaaimbaa.X
namespace Go.Proofs.Ytkdendlgaaimbaa.X
open Go.RowKit Go.Proofs.YtkdendlgaaimbaaW.PrintWords
set_option linter.unusedVariables false
set_option linter.unusedSimpArgs false
set_option maxRecDepth 100000 in
set_option maxHeartbeats 400000 in
theorem spec_l3Big (w : World) : Calls Try.prog 148 #[] w (RetV w (.int .i64 1099511627776)) := by
 have HB := Aside0.mk (Below.refl w.heap.size w)
 go_enter Try.func148, Try.ntmps148
 go_wp2
 go_ret
 exact RetV.mk rfl HB.out
set_option maxRecDepth 100000 in
set_option maxHeartbeats 1000000 in
theorem spec_l3Item (x : It) (w : World) : Calls Try.prog 147 #[.agg #[.int .i64 x.f0, .int .i64 x.f1, .int .i64 x.f2]] w (RetV w (.bool (sItem x))) := by
 have HB := Aside0.mk (Below.refl w.heap.size w)
 go_enter Try.func147, Try.ntmps147
 go_wp2
 all_goals (go_ret; exact RetV.mk (by first | (simp_all [sItem]; done) | (refine vbool ?_; simp_all [sItem] <;> omega)) (by repeat (first | exact HB.out | apply below_alloc)))
set_option maxRecDepth 100000 in
set_option maxHeartbeats 3000000 in
theorem spec_SetOk (v : Value) (l : List It) (w : World) (h : Sl kIt w v l) : Calls Try.prog 103 #[v] w (RetV w (.bool (setOk l))) := by
 obtain ⟨A, c_, rfl, HC, hr⟩ := h
 have hm := Kd.C_max hr
 have HR := Aside0.mk hr
 clear hr
 by_cases hlen : l.length ≤ 400
 ·have hlen2 : decide ((l.length : Int) > 400) = false := decide_eq_false (by omega)
  have HB := Aside0.mk (Below.refl w.heap.size w)
  go_enter Try.func103, Try.ntmps103
  go_wp2
  go_loopw [3] (fun i wr => ∃ k : Nat, k ≤ l.length ∧ i = .int .i64 k ∧ Aside0 (sAsc (l.take k) = true) ∧ Aside0 (Below w.heap.size w wr)) (fun i _ => l.length - (intOf i).toNat)
  case atStart => exact ⟨0, Nat.zero_le _, rfl, ⟨by simp [sAsc]⟩, HB⟩
  case round =>
   obtain ⟨k, hk, rfl, HA, HB⟩ := hrel
   by_cases hlt : k < l.length
   ·obtain ⟨ad, x, e, HX, h0, h1, h2⟩ := rdIt HR.out HB.out hlt
    cases e
    have p0 := fun u => Ext.cell h0 u
    have p1 := fun u => Ext.cell h1 u
    have p2 := fun u => Ext.cell h2 u
    by_cases hk0 : 0 < k
    ·obtain ⟨j, rfl⟩ : ∃ j, k = j + 1 := ⟨k - 1, by omega⟩
     obtain ⟨ad', y, e, HY, i0, i1, i2⟩ := rdIt HR.out HB.out (k := j) (by omega)
     cases e
     have e1 : IntKind.i64.wrap (j : Int) = j := IntWalk.i64_in _ (by omega)
     have e2 : (j : Int) < (l.length : Int) := by omega
     have e3 : j < l.length := by omega
     have e4 : (0 : Int) ≤ (j : Int) + 1 := by omega
     have q0 := fun u => Ext.cell i0 u
     have q1 := fun u => Ext.cell i1 u
     have q2 := fun u => Ext.cell i2 u
     go_wp2
     refine wp_region_ext (by kernel_rfl) (by kernel_rfl) ?_
     repeat (any_goals (first | go_big_quiet_step (first | (go_at_call 147; exact Calls.extV (spec_l3Item x _)) | (go_at_call 148; exact Calls.extV (spec_l3Big _)) | (go_at_call 94; refine (spec_l6In _ _ _ _).mono ?_; rintro e w' ⟨rfl, rfl⟩; exact ⟨rfl, _, rfl⟩)) | quiet_step (first | (go_at_call 147; exact Calls.extV (spec_l3Item x _)) | (go_at_call 148; exact Calls.extV (spec_l3Big _)) | (go_at_call 94; refine (spec_l6In _ _ _ _).mono ?_; rintro e w' ⟨rfl, rfl⟩; exact ⟨rfl, _, rfl⟩)) | (refine wpQuiet_step (fun K hK => ?_); go_simp; split <;> (refine hK _ ?_; clear hK K))))
     all_goals (refine wpQuiet_nil ?_; intro u)
     all_goals have HB2 := Aside0.mk (bthen HB.out u.bel)
     all_goals go_wp2
     all_goals first
      | (go_roundw
         case rel => exact ⟨j + 1 + 1, by omega, by go_num, ⟨by rw [sAsc_next HA.out HY.out HX.out]; simp_all [sOk, sNext] <;> omega⟩, HB2⟩
         case measure => simp [intOf]; omega)
      | (go_ret; exact RetV.mk (by rw [setOk, sAsc_false (j + 1 + 1) (by rw [sAsc_next HA.out HY.out HX.out]; simp_all [sOk, sNext] <;> omega)]; simp) HB2.out)
    ·go_wp2
     refine wp_region_ext (by kernel_rfl) (by kernel_rfl) ?_
     repeat (any_goals (first | go_big_quiet_step (first | (go_at_call 147; exact Calls.extV (spec_l3Item x _)) | (go_at_call 148; exact Calls.extV (spec_l3Big _)) | (go_at_call 94; refine (spec_l6In _ _ _ _).mono ?_; rintro e w' ⟨rfl, rfl⟩; exact ⟨rfl, _, rfl⟩)) | quiet_step (first | (go_at_call 147; exact Calls.extV (spec_l3Item x _)) | (go_at_call 148; exact Calls.extV (spec_l3Big _)) | (go_at_call 94; refine (spec_l6In _ _ _ _).mono ?_; rintro e w' ⟨rfl, rfl⟩; exact ⟨rfl, _, rfl⟩)) | (refine wpQuiet_step (fun K hK => ?_); go_simp; split <;> (refine hK _ ?_; clear hK K))))
     all_goals (refine wpQuiet_nil ?_; intro u)
     all_goals have HB2 := Aside0.mk (bthen HB.out u.bel)
     all_goals go_wp2
     all_goals first
      | (go_roundw
         case rel => exact ⟨k + 1, by omega, by go_num, ⟨by rw [sAsc_first HX.out hk0]; simp_all [sOk] <;> omega⟩, HB2⟩
         case measure => simp [intOf]; omega)
      | (go_ret; exact RetV.mk (by rw [setOk, sAsc_false (k + 1) (by rw [sAsc_first HX.out hk0]; simp_all [sOk] <;> omega)]; simp) HB2.out)
   ·go_wp2
    go_ret
    exact RetV.mk (by rw [setOk, sAsc_done HA.out hlt]; simp [hlen]) HB.out
 ·have hlen2 : decide ((l.length : Int) > 400) = true := decide_eq_true (by omega)
  have HB := Aside0.mk (Below.refl w.heap.size w)
  go_enter Try.func103, Try.ntmps103
  go_wp2
  go_ret
  exact RetV.mk (by simp [setOk, hlen]) HB.out
set_option maxRecDepth 100000 in
set_option maxHeartbeats 3000000 in
theorem impl_SetOk (v : Value) (l : List It) (w : World) (h : Sl kIt w v l) : Calls Try.prog 43 #[v] w (RetV w (.bool (setOk l))) := by
 obtain ⟨A, c_, rfl, HC, hr⟩ := h
 have hm := Kd.C_max hr
 have HR := Aside0.mk hr
 clear hr
 have HB := Aside0.mk (Below.refl w.heap.size w)
 go_enter Try.func43, Try.ntmps43
 go_wp2
 go_loopw [7] (fun i wr => ∃ k : Nat, k ≤ l.length ∧ i = .int .i64 k ∧ Aside0 (sAsc (l.take k) = true) ∧ Aside0 (Below w.heap.size w wr)) (fun i _ => l.length - (intOf i).toNat)
 case atStart => exact ⟨0, Nat.zero_le _, rfl, ⟨by simp [sAsc]⟩, HB⟩
 case round =>
  obtain ⟨k, hk, rfl, HA, HB⟩ := hrel
  by_cases hlt : k < l.length
  ·obtain ⟨ad, x, e, HX, h0, h1, h2⟩ := rdIt HR.out HB.out hlt
   cases e
   by_cases hk0 : 0 < k
   ·obtain ⟨j, rfl⟩ : ∃ j, k = j + 1 := ⟨k - 1, by omega⟩
    obtain ⟨ad', y, e, HY, i0, i1, i2⟩ := rdIt HR.out HB.out (k := j) (by omega)
    cases e
    have e1 : IntKind.i64.wrap (j : Int) = j := IntWalk.i64_in _ (by omega)
    have e2 : (j : Int) < (l.length : Int) := by omega
    have e3 : j < l.length := by omega
    have e4 : (0 : Int) ≤ (j : Int) + 1 := by omega
    go_wp2
    any_goals (go_ret; exact RetV.mk (by rw [setOk, sAsc_false (j + 1 + 1) (by rw [sAsc_next HA.out HY.out HX.out]; simp_all [sOk, sItem, sNext] <;> omega)]; simp) (below_alloc HB.out _))
    refine name_world fun W hW => ?_
    have hb : Below wr.heap.size wr W := hW ▸ below_alloc (Below.refl _ _) _
    have b0 : ∀ u : Ext W, u.w'.cell? ⟨wr.heap.size, 0, none⟩ = some (.int .i64 x.f0) := Ext.cell (by rw [hW]; simp)
    have b1 : ∀ u : Ext W, u.w'.cell? ⟨wr.heap.size, 1, none⟩ = some (.int .i64 x.f1) := Ext.cell (by rw [hW]; simp)
    have q0 := fun u => Ext.cell (pw_cell_below hb i0) u
    have q1 := fun u => Ext.cell (pw_cell_below hb i1) u
    have q2 := fun u => Ext.cell (pw_cell_below hb i2) u
    clear hW
    refine wp_region_ext (by kernel_rfl) (by kernel_rfl) ?_
    repeat (any_goals (first | go_big_quiet_step (fail) | quiet_step (fail) | (refine wpQuiet_step (fun K hK => ?_); go_simp; split <;> (refine hK _ ?_; clear hK K))))
    all_goals (refine wpQuiet_nil ?_; intro u)
    all_goals have HB2 := Aside0.mk (bthen HB.out (bthen hb u.bel))
    all_goals go_wp2
    all_goals first
     | (go_roundw
        case rel => exact ⟨j + 1 + 1, by omega, by go_num, ⟨by rw [sAsc_next HA.out HY.out HX.out]; simp_all [sOk, sItem, sNext] <;> omega⟩, HB2⟩
        case measure => simp [intOf]; omega)
     | (go_ret; exact RetV.mk (by rw [setOk, sAsc_false (j + 1 + 1) (by rw [sAsc_next HA.out HY.out HX.out]; simp_all [sOk, sItem, sNext] <;> omega)]; simp) HB2.out)
   ·
    go_wp2
    any_goals (go_ret; exact RetV.mk (by rw [setOk, sAsc_false (k + 1) (by rw [sAsc_first HX.out hk0]; simp_all [sOk, sItem] <;> omega)]; simp) (below_alloc HB.out _))
    refine name_world fun W hW => ?_
    have hb : Below wr.heap.size wr W := hW ▸ below_alloc (Below.refl _ _) _
    have b0 : ∀ u : Ext W, u.w'.cell? ⟨wr.heap.size, 0, none⟩ = some (.int .i64 x.f0) := Ext.cell (by rw [hW]; simp)
    have b1 : ∀ u : Ext W, u.w'.cell? ⟨wr.heap.size, 1, none⟩ = some (.int .i64 x.f1) := Ext.cell (by rw [hW]; simp)
    clear hW
    refine wp_region_ext (by kernel_rfl) (by kernel_rfl) ?_
    repeat (any_goals (first | go_big_quiet_step (fail) | quiet_step (fail) | (refine wpQuiet_step (fun K hK => ?_); go_simp; split <;> (refine hK _ ?_; clear hK K))))
    all_goals (refine wpQuiet_nil ?_; intro u)
    all_goals have HB2 := Aside0.mk (bthen HB.out (bthen hb u.bel))
    all_goals go_wp2
    all_goals first
     | (go_roundw
        case rel => exact ⟨k + 1, by omega, by go_num, ⟨by rw [sAsc_first HX.out hk0]; simp_all [sOk, sItem] <;> omega⟩, HB2⟩
        case measure => simp [intOf]; omega)
     | (go_ret; exact RetV.mk (by rw [setOk, sAsc_false (k + 1) (by rw [sAsc_first HX.out hk0]; simp_all [sOk, sItem] <;> omega)]; simp) HB2.out)
  ·go_wp2
   go_ret
   exact RetV.mk (vbool (by rw [setOk, sAsc_done HA.out hlt]; simp; omega)) HB.out
end Go.Proofs.Ytkdendlgaaimbaa.X
namespace Go.Proofs.Ytkdendlgaaimbaa.X
open Go.RowKit
def Ev {α : Type} (f : Nat → Option α) (r : α) : Prop := ∃ K, ∀ k, K ≤ k → f k = some r
theorem Ev.bind {α β : Type} {f : Nat → Option α} {a : α} {g : Nat → α → Option β} {b : β} (h : Ev f a) (h2 : Ev (fun k => g k a) b) : Ev (fun k => (f k).bind (g k)) b := by
 obtain ⟨K, h⟩ := h
 obtain ⟨L, h2⟩ := h2
 refine ⟨max K L, fun k hk => ?_⟩
 show (f k).bind (g k) = some b
 rw [h k (by omega)]
 exact h2 k (by omega)
theorem Ev.pure {α : Type} (a : α) : Ev (fun _ => some a) a := ⟨0, fun _ _ => rfl⟩
theorem Ev.all {α : Type} {f : Nat → Option α} {a : α} (h : ∀ k, f k = some a) : Ev f a := ⟨0, fun k _ => h k⟩
theorem Ev.succ {α : Type} {f : Nat → Option α} {a : α} (h : Ev (fun k => f (k + 1)) a) : Ev f a := by
 obtain ⟨K, h⟩ := h
 refine ⟨K + 1, fun k hk => ?_⟩
 obtain ⟨j, rfl⟩ : ∃ j, k = j + 1 := ⟨k - 1, by omega⟩
 exact h j (by omega)
theorem Ev.of {α : Type} {f g : Nat → Option α} {a : α} (h : Ev f a) (e : ∀ k, g k = f k) : Ev g a := by
 obtain ⟨K, h⟩ := h
 exact ⟨K, fun k hk => by rw [e]; exact h k hk⟩
theorem Ev.get {α : Type} {f : Nat → Option α} {a : α} (h : Ev f a) : ∃ k, f k = some a := by
 obtain ⟨K, h⟩ := h
 exact ⟨K, h K (Nat.le_refl _)⟩
theorem wsmall {n : Int} (h0 : 0 ≤ n) (h1 : n < 9223372036854775808) : wrap64 n = n := by unfold wrap64; omega
theorem wraps_i64 (n : Int) (h0 : 0 ≤ n) (h1 : n < 2 ^ 63) : IntKind.i64.wrap n = n := by rw [IntKind.wrap_i64]; omega
theorem bits_xor_nonneg (n m : Nat) (hn : n < 9223372036854775808) (hm : m < 9223372036854775808) : 0 ≤ Go.bits .xor .i64 (n : Int) (m : Int) := by
 have hn' : n % 2 ^ IntKind.i64.bits = n := Nat.mod_eq_of_lt (by rw [show IntKind.i64.bits = 64 from rfl]; omega)
 have hm' : m % 2 ^ IntKind.i64.bits = m := Nat.mod_eq_of_lt (by rw [show IntKind.i64.bits = 64 from rfl]; omega)
 have hx : n ^^^ m < 2 ^ 63 := Nat.xor_lt_two_pow (by omega) (by omega)
 simp only [bits, BitVec.ofInt_natCast, BitVec.toNat_xor, BitVec.toNat_ofNat, hn', hm']
 rw [wraps_i64 _ (Int.natCast_nonneg _) (by omega)]
 exact Int.natCast_nonneg _
end Go.Proofs.Ytkdendlgaaimbaa.X
namespace Go.Proofs.Ytkdendlgaaimbaa.X
open Go.RowKit Go.Proofs.YtkdendlgaaimbaaW.PrintWords
set_option linter.unusedVariables false
set_option linter.unusedSimpArgs false
section
variable {P : Program} {ops : Array Oper} {rest : List Oper} {o : Oper} {a : Act} {Q : Exit → Act → World → Prop} {α : Type}
end
end Go.Proofs.Ytkdendlgaaimbaa.X
namespace Go.Proofs.Ytkdendlgaaimbaa.X
open Go.RowKit Go.Proofs.YtkdendlgaaimbaaW.PrintWords
set_option linter.unusedVariables false
set_option linter.unusedSimpArgs false
section
variable {P : Program} {ops : Array Oper} {rest : List Oper} {o : Oper} {a : Act} {Q : Exit → Act → World → Prop}
end
end Go.Proofs.Ytkdendlgaaimbaa.X
namespace Go.Proofs.Ytkdendlgaaimbaa.X
open Go.RowKit Go.Proofs.YtkdendlgaaimbaaW.PrintWords
set_option linter.unusedVariables false
set_option linter.unusedSimpArgs false
section
variable {P : Program} {ops : Array Oper} {rest : List Oper} {o : Oper} {a : Act} {Q : Exit → Act → World → Prop}
end
end Go.Proofs.Ytkdendlgaaimbaa.X
namespace Go.Proofs.Ytkdendlgaaimbaa.X
open Go.RowKit Go.ChangeShapes Go.WideShapes Go.WideElems Go.Deep Go.Proofs.YtkdendlgaaimbaaW.PrintWords
set_option linter.unusedVariables false
set_option linter.unusedSimpArgs false
end Go.Proofs.Ytkdendlgaaimbaa.X
