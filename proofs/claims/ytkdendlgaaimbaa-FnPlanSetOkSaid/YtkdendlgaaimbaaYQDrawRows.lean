/- Conditions: none. -/
import Derived.Test.YtkdendlgaaimbaaYQDrawRow
import Derived.Shelf.GgSortFunc.LotD
import Derived.Deep.DeepCutAuto
namespace Go.Proofs.Ytkdendlgaaimbaa.X
open Go.RowKit Go.Proofs.YtkdendlgaaimbaaW.PrintWords
set_option linter.unusedVariables false
set_option linter.unusedSimpArgs false
theorem Rd.alloc {w0 : World} {rb : Nat} {s : List Int} {p : Int} {W : World} (h : Rd w0 rb s p W) (o : Obj) : Rd w0 rb s p (W.alloc o) := h.below (below_alloc (Below.refl _ _) _)
theorem R_alloc {α : Type} {d : Kd α} {e base : Nat} {ok : Nat → Prop} {v : Value} {xs : List α} {W : World} (h : d.R e W base ok v xs) (o : Obj) : d.R e (W.alloc o) base ok v xs := Kd.R_below h (below_alloc (Below.refl _ _) _)
theorem R_pick {α : Type} {d : Kd α} {e base : Nat} {ok : Nat → Prop} {v : Value} {xs : List α} {W W' : World} {rb : Nat} (h : d.R e W base ok v xs) (hg : W.grownBy W' (some rb)) (hok : ∀ q, ok q → q ≠ rb) : d.R e W' base ok v xs := Kd.R_grown h hg (fun q hq e => hok q hq (Option.some.inj e))
theorem Rd.belowB {w0 : World} {rb : Nat} {s : List Int} {p : Int} {W W' : World} {B : Nat} (h : Rd w0 rb s p W) (hb : Below B W W') (hB : rb < B) : Rd w0 rb s p W' := by
 have hg := h.ge
 obtain ⟨A, c, h1, h2⟩ := h.blk
 exact ⟨⟨A, c, (hb.block rb hB).trans h1, h2⟩, ⟨hb.os.trans h.bel.os, hb.tape.trans h.bel.tape, hb.output.trans h.bel.output, Nat.le_trans h.bel.size hb.size, fun k hk => (hb.block k (by omega)).trans (h.bel.block k hk)⟩, h.ge, h.nn⟩
theorem gthenB {w w1 w2 : World} {r : Option Nat} (h : w.grownBy w1 r) (k : Below w.heap.size w1 w2) : w.grownBy w2 r :=
 ⟨k.os.trans h.os, k.tape.trans h.tape, k.output.trans h.output, Nat.le_trans h.size k.size, fun j hj hn => (k.block j hj).trans (h.block j hj hn)⟩
theorem set_grownX {w w1 : World} {r : Option Nat} {a : Addr} (h : w.heap.size ≤ a.block) (hg : w.grownBy w1 r) (u : Value) : w.grownBy (w1.setCell a u) r :=
 ⟨hg.os, hg.tape, hg.output, by simpa using hg.size, fun j hj hn => (Below.heap_setCell _ _ _ _ (by omega)).trans (hg.block j hj hn)⟩
theorem small_mix {x y : Rw} (hy : small y) (hx : small x) : small ⟨y.f0, y.f1, ⟨x.f2.f0, x.f2.f1⟩, x.f3⟩ := ⟨hy.1, hy.2.1, hy.2.2.1, hy.2.2.2.1, hx.2.2.2.2⟩
theorem small_neg {y : Rw} (h : small y) : wrap64 (-y.f3) = -y.f3 := by unfold small at h; unfold wrap64; omega
theorem small_mixn {x y : Rw} (hy : small y) (hx : small x) : small ⟨y.f0, y.f1, ⟨x.f2.f0, x.f2.f1⟩, wrap64 (-y.f3)⟩ := by
 rw [small_neg hy]
 exact ⟨hy.1, hy.2.1, hy.2.2.1, hy.2.2.2.1, hx.2.2.2.2.1, by have := hy.2.2.2.2.2.2; show -3 ≤ -y.f3; omega, by have := hy.2.2.2.2.2.1; show -y.f3 ≤ 3; omega⟩
set_option maxRecDepth 100000 in
set_option maxHeartbeats 4000000 in
theorem spec_l71Rows {w0 W : World} {rb : Nat} {s : List Int} {p : Int} (hS : Aside0 (RS s)) (h : Rd w0 rb s p W) (hp : p ≤ 600000) (most : Nat) (hm : most ≤ 100) :
  Calls Try.prog 127 #[.pointer (some ⟨rb, 0, none⟩), .int .i64 most] W fun e W' => ∃ (v : Value) (l : List Rw), e = .returned v ∧ kRw.R 102 W' W.heap.size okT v l ∧ (∀ r ∈ l, small r) ∧ l.length ≤ most ∧ Adv w0 rb s p (10 * most + 1) W W' := by
 have hbl := h.lt
 have hge := h.ge
 have hbs := h.bel.size
 have hnn := h.nn
 have ew : wrap64 ((most : Int) + 1) = (most : Int) + 1 := by unfold wrap64; omega
 have HR := Aside0.mk (h.alloc (.cells #[] 102))
 have HV := Aside0.mk (alloc_grown W (.cells #[] 102) (some rb))
 have HO : Aside0 (kRw.R 102 (W.alloc (.cells #[] 102)) W.heap.size (fun q => q ≠ rb) (.slice (some ⟨W.heap.size, 0, none⟩) 0 0) []) := ⟨R_none (blk_new W _) (Nat.le_refl _) (by omega)⟩
 clear h
 go_enter Try.func127, Try.ntmps127
 go_wp2_with (go_at_call 69; refine (spec_pick hS.out HR.out (by omega) ((most : Int) + 1) (by omega) (by omega)).mono ?_; rintro e w' ⟨v, rfl, v0, v1, hr, hg⟩; replace HO := Aside0.mk (R_pick HO.out hg (fun q hq => hq)); replace HV := Aside0.mk (gthen HV.out hg); replace HR := Aside0.mk hr; clear hr hg; obtain ⟨n, rfl⟩ := Int.eq_ofNat_of_zero_le v0)
 go_loopg [5, 6] n (fun g o i wr => ∃ (m : Nat) (acc : List Rw) (p' : Int), i = .int .i64 m ∧ m ≤ g ∧ acc.length + m ≤ most ∧ p ≤ p' ∧ p' + 10 * m ≤ p + 10 * most + 1 ∧ Aside0 (∀ r ∈ acc, small r) ∧ Aside0 (kRw.R 102 wr W.heap.size (fun q => q ≠ rb) o acc) ∧ Aside0 (Rd w0 rb s p' wr) ∧ Aside0 (W.grownBy wr (some rb)))
 case atStart => exact ⟨n, [], p + 1, rfl, Nat.le_refl _, by simp; omega, by omega, by omega, ⟨fun r hr => by cases hr⟩, HO, HR, HV⟩
 case round =>
  clear HO HR HV
  obtain ⟨m, acc, p', rfl, hmg, hacc, hp0, hp1, HA, HO, HR, HV⟩ := hrel
  have hbl1 := HR.out.lt
  have hWs := HV.out.size
  cases m with
  | zero =>
   go_wp2
   go_ret
   exact ⟨_, acc, rfl, Kd.R_mono HO.out (fun _ _ => trivial), HA.out, by omega, p', by omega, by omega, HR.out, HV.out⟩
  | succ m =>
   obtain ⟨A2, c2, e2, hc2, _⟩ := Sl.of_R HO.out
   cases e2
   have ew2 : wrap64 (((m + 1 : Nat) : Int) - 1) = (m : Int) := by unfold wrap64; omega
   have hm0 : (0 : Int) < ((m + 1 : Nat) : Int) := by omega
   by_cases ha : acc.length = 0
   ·have ha2 : ¬ ((acc.length : Int) > 0) := by omega
    obtain rfl : acc = [] := List.eq_nil_of_length_eq_zero ha
    go_wp2_with (first | (go_at_call 165; refine (spec_l71Row hS HR.out (by omega)).mono ?_; rintro e w' ⟨x, rfl, hx, p2, g0, g1, hr, hg⟩; replace HO := Aside0.mk (R_pick HO.out hg (fun q hq => hq)); replace HV := Aside0.mk (gthen HV.out hg); replace HR := Aside0.mk hr; have hbl2 := HR.out.lt; have hWs2 := HV.out.size; have HX := Aside0.mk hx; clear hr hg hx) | (at_builtin; refine appRw (w0 := w'.alloc (.cells #[.int .i64 x.f0, .int .i64 x.f1, .int .i64 x.f2.f0, .int .i64 x.f2.f1, .int .i64 x.f3] 102)) (base := W.heap.size) (xs := ([] : List Rw)) (ok := fun q => q ≠ rb) rfl rfl ?hx ?ho ?hf (Below.refl _ _) ?hc (by simp) ?_; (case hx => exact congrArg (fun n => Value.slice (some ⟨n, 0, none⟩) 1 1) (show w'.heap.size + 1 = (w'.alloc (.cells #[.int .i64 x.f0, .int .i64 x.f1, .int .i64 x.f2.f0, .int .i64 x.f2.f1, .int .i64 x.f3] 102)).heap.size by simp)); (case ho => exact R_alloc HO.out _); (case hf => intro q hq; have hq2 : w'.heap.size ≤ q := (by simp at hq; omega); omega); (case hc => have hq3 : w'.heap.size ≤ (w'.alloc (.cells #[.int .i64 x.f0, .int .i64 x.f1, .int .i64 x.f2.f0, .int .i64 x.f2.f1, .int .i64 x.f3] 102)).heap.size := (by simp); omega); intro v1 w1 hr1 hb1 hg1 ha1; have HO5 := Aside0.mk hr1; have HR5 := Aside0.mk (Rd.belowB (HR.out.alloc _) hb1 (by omega)); have HV5 := Aside0.mk (gthenB (gthen HV.out (alloc_grown _ _ _)) hb1); clear hr1 hb1 hg1 ha1))
    go_roundg m
    case measure => omega
    case rel => exact ⟨m, [x], p2, by go_num, Nat.le_refl _, by simp; omega, by omega, by omega, ⟨fun r hr => by rw [List.mem_singleton.1 hr]; exact HX.out⟩, HO5, HR5, HV5⟩
   ·have ha2 : (acc.length : Int) > 0 := by omega
    go_upto_if 27 with (first | (go_at_call 165; refine (spec_l71Row hS HR.out (by omega)).mono ?_; rintro e w' ⟨x, rfl, hx, p2, g0, g1, hr, hg⟩; replace HO := Aside0.mk (R_pick HO.out hg (fun q hq => hq)); replace HV := Aside0.mk (gthen HV.out hg); replace HR := Aside0.mk hr; have hbl2 := HR.out.lt; have hWs2 := HV.out.size; have HX := Aside0.mk hx; clear hr hg hx) | (go_at_call 69; refine (spec_pick hS.out (HR.out.alloc _) (by omega) 3 (by omega) (by omega)).mono ?_; rintro e w3 ⟨t3, rfl, t30, t31, hr, hg⟩; obtain ⟨X, hXe⟩ : ∃ X, X = w'.heap.size := ⟨_, rfl⟩; have HXB : Aside0 (w3.heap[X]? = some (.cells #[.int .i64 x.f0, .int .i64 x.f1, .int .i64 x.f2.f0, .int .i64 x.f2.f1, .int .i64 x.f3] 102 (0, 0))) := ⟨by rw [hXe]; exact (hg.block _ (by simp) (fun e => by have := Option.some.inj e; omega)).trans (blk_new w' _)⟩; rw [← hXe]; replace HO : Aside0 (kRw.R 102 w3 W.heap.size (fun q => q ≠ rb ∧ q ≠ X) _ acc) := Aside0.mk (R_pick (R_alloc (Kd.R_mono (Kd.R_bound HO.out) (fun q hq => ⟨hq.1, by have := hq.2.2; omega⟩)) _) hg (fun q hq => hq.1)); replace HV := Aside0.mk (gthen (gthen HV.out (alloc_grown _ _ _)) hg); replace HR := Aside0.mk hr; have hbl3 := HR.out.lt; have hWs3 := HV.out.size; have hX3 := blk_lt HXB.out; have kw30 : w3.cell? ⟨X, 0, none⟩ = some (.int .i64 x.f0) := blk_cell HXB.out 0; have kw31 : w3.cell? ⟨X, 1, none⟩ = some (.int .i64 x.f1) := blk_cell HXB.out 1; have kw32 : w3.cell? ⟨X, 2, none⟩ = some (.int .i64 x.f2.f0) := blk_cell HXB.out 2; have kw33 : w3.cell? ⟨X, 3, none⟩ = some (.int .i64 x.f2.f1) := blk_cell HXB.out 3; have kw34 : w3.cell? ⟨X, 4, none⟩ = some (.int .i64 x.f3) := blk_cell HXB.out 4; have fw30 := blk_fz HXB.out 0; have fw31 := blk_fz HXB.out 1; have fw34 := blk_fz HXB.out 4; have hXr : X ≠ rb := (by omega); have hXW : W.heap.size ≤ X := (by omega); have hrX : rb ≠ X := (by omega); have hXw : w0.heap.size ≤ X := (by omega); clear hr hg hXe))
    by_cases ht3 : t3 = 0
    ·have ht3b : (t3 == 0) = true := by rw [ht3]; rfl
     go_upto_region 8 with (first | (go_at_call 69; refine (spec_pick hS.out HR.out (by omega) (acc.length : Int) (by omega) (by omega)).mono ?_; rintro e w4 ⟨t4, rfl, t40, t41, hr, hg⟩; replace HXB := Aside0.mk ((hg.block X hX3 (fun e => hXr (Option.some.inj e))).trans HXB.out); replace HO := Aside0.mk (R_pick HO.out hg (fun q hq => hq.1)); replace HV := Aside0.mk (gthen HV.out hg); replace HR := Aside0.mk hr; have hbl4 := HR.out.lt; have hX4 := blk_lt HXB.out; obtain ⟨j, rfl⟩ := Int.eq_ofNat_of_zero_le t40; obtain ⟨A5, c5, e5, hc5, hC5⟩ := Sl.of_R HO.out; cases e5; obtain ⟨ad, y, e5, HY, i0, i1, i2, i3, i4⟩ := rdRw hC5 (Below.refl _ _) (k := j) (by omega); cases e5; have hys := Aside0.mk (HA.out y (List.mem_of_getElem? HY.out)); have kw40 : w4.cell? ⟨X, 0, none⟩ = some (.int .i64 x.f0) := blk_cell HXB.out 0; have kw41 : w4.cell? ⟨X, 1, none⟩ = some (.int .i64 x.f1) := blk_cell HXB.out 1; have kw42 : w4.cell? ⟨X, 2, none⟩ = some (.int .i64 x.f2.f0) := blk_cell HXB.out 2; have kw43 : w4.cell? ⟨X, 3, none⟩ = some (.int .i64 x.f2.f1) := blk_cell HXB.out 3; have kw44 : w4.cell? ⟨X, 4, none⟩ = some (.int .i64 x.f3) := blk_cell HXB.out 4; have fw40 := blk_fz HXB.out 0; have fw41 := blk_fz HXB.out 1; have fw44 := blk_fz HXB.out 4; clear hr hg hC5) | fail)
     go_upto_if 43 with (go_at_call 69; refine (spec_pick hS.out (((HR.out.far (a := ⟨X, 0, none⟩) hrX hXw _).far (a := ⟨X, 1, none⟩) hrX hXw _).alloc _) (by omega) 2 (by omega) (by omega)).mono ?_; rintro e w5 ⟨t5, rfl, t50, t51, hr, hg⟩; have HXB5 : Aside0 (w5.heap[X]? = some (.cells #[.int .i64 y.f0, .int .i64 y.f1, .int .i64 x.f2.f0, .int .i64 x.f2.f1, .int .i64 x.f3] 102 (0, 0))) := ⟨(hg.block X (by simp; omega) (fun e => hXr (Option.some.inj e))).trans (by simpa using blk_alloc (blk_set (blk_set HXB.out 0 (.int .i64 y.f0)) 1 (.int .i64 y.f1)) (.cells #[.int .i64 y.f0, .int .i64 y.f1, .int .i64 y.f2.f0, .int .i64 y.f2.f1, .int .i64 y.f3] 102))⟩; have hXY : w4.heap.size ≠ X := (by omega); have HYB5 : Aside0 (w5.heap[w4.heap.size]? = some (.cells #[.int .i64 y.f0, .int .i64 y.f1, .int .i64 y.f2.f0, .int .i64 y.f2.f1, .int .i64 y.f3] 102 (0, 0))) := ⟨(hg.block _ (by simp) (fun e => by have := Option.some.inj e; omega)).trans (by simpa using blk_new ((w4.setCell ⟨X, 0, none⟩ (.int .i64 y.f0)).setCell ⟨X, 1, none⟩ (.int .i64 y.f1)) (.cells #[.int .i64 y.f0, .int .i64 y.f1, .int .i64 y.f2.f0, .int .i64 y.f2.f1, .int .i64 y.f3] 102))⟩; replace HO := Aside0.mk (R_pick (R_alloc (Kd.R_far (p := ⟨X, 1, none⟩) (Kd.R_far (p := ⟨X, 0, none⟩) HO.out (fun q hq => hq.2) (.int .i64 y.f0)) (fun q hq => hq.2) (.int .i64 y.f1)) (.cells #[.int .i64 y.f0, .int .i64 y.f1, .int .i64 y.f2.f0, .int .i64 y.f2.f1, .int .i64 y.f3] 102)) hg (fun q hq => hq.1)); replace HV := Aside0.mk (gthen (gthen (set_grownX (a := ⟨X, 1, none⟩) hXW (set_grownX (a := ⟨X, 0, none⟩) hXW HV.out _) _) (alloc_grown _ (.cells #[.int .i64 y.f0, .int .i64 y.f1, .int .i64 y.f2.f0, .int .i64 y.f2.f1, .int .i64 y.f3] 102) (some rb))) hg); replace HR := Aside0.mk hr; have hbl5 := HR.out.lt; have hX5 := blk_lt HXB5.out; have kw50 : w5.cell? ⟨X, 0, none⟩ = some (.int .i64 y.f0) := blk_cell HXB5.out 0; have kw51 : w5.cell? ⟨X, 1, none⟩ = some (.int .i64 y.f1) := blk_cell HXB5.out 1; have kw52 : w5.cell? ⟨X, 2, none⟩ = some (.int .i64 x.f2.f0) := blk_cell HXB5.out 2; have kw53 : w5.cell? ⟨X, 3, none⟩ = some (.int .i64 x.f2.f1) := blk_cell HXB5.out 3; have kw54 : w5.cell? ⟨X, 4, none⟩ = some (.int .i64 x.f3) := blk_cell HXB5.out 4; have fw54 := blk_fz HXB5.out 4; have ky5 : w5.cell? ⟨w4.heap.size, 4, none⟩ = some (.int .i64 y.f3) := blk_cell HYB5.out 4; clear hr hg)
     by_cases ht5 : t5 = 0
     ·have ht5b : (t5 == 0) = true := by rw [ht5]; rfl
      have HZ6 : Aside0 (w5.heap.size = (w5.setCell ⟨X, 4, none⟩ (.int .i64 (wrap64 (-y.f3)))).heap.size) := ⟨by simp⟩
      have HO7 := Aside0.mk (Kd.R_far (p := ⟨X, 4, none⟩) HO.out (fun q hq => hq.2) (.int .i64 (wrap64 (-y.f3))))
      have HR7 := Aside0.mk (HR.out.far (a := ⟨X, 4, none⟩) hrX hXw (.int .i64 (wrap64 (-y.f3))))
      have HV7 := Aside0.mk (set_grownX (a := ⟨X, 4, none⟩) hXW HV.out (.int .i64 (wrap64 (-y.f3))))
      have hW5 := HV.out.size
      go_wp2_with (at_builtin; refine appRw (w0 := (w5.setCell ⟨X, 4, none⟩ (.int .i64 (wrap64 (-y.f3))))) (base := W.heap.size) (xs := acc) (ok := fun q => q ≠ rb ∧ q ≠ X) rfl rfl ?hx HO7.out ?hf (Below.refl _ _) ?hc (by omega) ?_; (case hx => exact congrArg (fun n => Value.slice (some ⟨n, 0, none⟩) 1 1) HZ6.out); (case hf => intro q hq; rw [← HZ6.out] at hq; exact ⟨by omega, by omega⟩); (case hc => rw [← HZ6.out]; omega); intro v1 w1 hr1 hb1 hg1 ha1; have HO6 := Aside0.mk (Kd.R_mono hr1 (fun q hq => hq.1)); have HR6 := Aside0.mk (HR7.out.belowB hb1 (by omega)); have HV6 := Aside0.mk (gthenB HV7.out hb1); clear hr1 hb1 hg1 ha1)
      go_roundg m
      case measure => omega
      case rel => exact ⟨m, acc ++ [_], _, by go_num, Nat.le_refl _, by rw [List.length_append, List.length_singleton]; omega, by omega, by omega, ⟨fun r hr => (List.mem_append.1 hr).elim (HA.out r) (fun e => by rw [List.mem_singleton.1 e]; exact small_mixn hys.out HX.out)⟩, HO6, HR6, HV6⟩
     ·have ht5b : (t5 == 0) = false := by simp [ht5]
      go_wp2_with (at_builtin; refine appRw (w0 := w5) (base := W.heap.size) (xs := acc) (ok := fun q => q ≠ rb ∧ q ≠ X) rfl rfl ?hx ?ho ?hf (Below.refl _ _) ?hc (by omega) ?_; (case hx => exact rfl); (case ho => exact HO.out); (case hf => intro q hq; exact ⟨by omega, by omega⟩); (case hc => have := (HV.out).size; omega); intro v1 w1 hr1 hb1 hg1 ha1; have HO6 := Aside0.mk (Kd.R_mono hr1 (fun q hq => hq.1)); have HR6 := Aside0.mk ((HR.out).belowB hb1 (by omega)); have HV6 := Aside0.mk (gthenB (HV.out) hb1); clear hr1 hb1 hg1 ha1)
      go_roundg m
      case measure => omega
      case rel => exact ⟨m, acc ++ [_], _, by go_num, Nat.le_refl _, by rw [List.length_append, List.length_singleton]; omega, by omega, by omega, ⟨fun r hr => (List.mem_append.1 hr).elim (HA.out r) (fun e => by rw [List.mem_singleton.1 e]; exact small_mix hys.out HX.out)⟩, HO6, HR6, HV6⟩
    ·have ht3b : (t3 == 0) = false := by simp [ht3]
     go_wp2_with (at_builtin; refine appRw (w0 := w3) (base := W.heap.size) (xs := acc) (ok := fun q => q ≠ rb ∧ q ≠ X) rfl rfl ?hx ?ho ?hf (Below.refl _ _) ?hc (by omega) ?_; (case hx => exact rfl); (case ho => exact HO.out); (case hf => intro q hq; exact ⟨by omega, by omega⟩); (case hc => have := (HV.out).size; omega); intro v1 w1 hr1 hb1 hg1 ha1; have HO6 := Aside0.mk (Kd.R_mono hr1 (fun q hq => hq.1)); have HR6 := Aside0.mk ((HR.out).belowB hb1 (by omega)); have HV6 := Aside0.mk (gthenB (HV.out) hb1); clear hr1 hb1 hg1 ha1)
     go_roundg m
     case measure => omega
     case rel => exact ⟨m, acc ++ [_], _, by go_num, Nat.le_refl _, by rw [List.length_append, List.length_singleton]; omega, by omega, by omega, ⟨fun r hr => (List.mem_append.1 hr).elim (HA.out r) (fun e => by rw [List.mem_singleton.1 e]; exact HX.out)⟩, HO6, HR6, HV6⟩
end Go.Proofs.Ytkdendlgaaimbaa.X
