/- Conditions: none. -/
import Derived.Test.YtkdendlgaaimbaaYQStEq
namespace Go.Proofs.Ytkdendlgaaimbaa.X
open Go.RowKit Go.Proofs.YtkdendlgaaimbaaW.PrintWords
set_option linter.unusedVariables false
set_option linter.unusedSimpArgs false
theorem take_nextE {α : Type} {l m : List α} {k : Nat} {x : α} (h : l.take k = m.take k) (hx : l[k]? = some x) (hy : m[k]? = some x) : l.take (k + 1) = m.take (k + 1) := by
 rw [List.take_add_one, List.take_add_one, h, hx, hy]
theorem vbT {p : Prop} [Decidable p] (h : p) : Value.bool true = Value.bool (decide p) := by rw [decide_eq_true h]
theorem vbF {p : Prop} [Decidable p] (h : ¬ p) : Value.bool false = Value.bool (decide p) := by rw [decide_eq_false h]
attribute [local go_sem high] eqAIt in
set_option maxRecDepth 100000 in
set_option maxHeartbeats 2000000 in
theorem laws_lwItems (v v2 : Value) (l m : List It) (w : World) (h : Sl kIt w v l) (h2 : Sl kIt w v2 m) : Calls Try.prog 27 #[v, v2] w (RetV w (.bool (decide (l = m)))) := by
 obtain ⟨A, c_, rfl, HC, hr⟩ := h
 have hm := Kd.C_max hr
 have HR := Aside0.mk hr
 obtain ⟨A2, c2_, rfl, HC2, hr2⟩ := h2
 have hm2 := Kd.C_max hr2
 have HR2 := Aside0.mk hr2
 clear hr hr2
 have HB := Aside0.mk (Below.refl w.heap.size w)
 go_enter Try.func27, Try.ntmps27
 by_cases hn : l.length = m.length
 ·go_wp2
  go_loopw [5] (fun i wr => ∃ k : Nat, k ≤ l.length ∧ i = .int .i64 k ∧ Aside0 (l.take k = m.take k) ∧ Aside0 (Below w.heap.size w wr)) (fun i _ => l.length - (intOf i).toNat)
  case atStart => exact ⟨0, Nat.zero_le _, rfl, ⟨by simp⟩, HB⟩
  case round =>
   obtain ⟨k, hk, rfl, HA, HB⟩ := hrel
   by_cases hlt : k < l.length
   ·obtain ⟨ad, x, e, HX, h0, h1, h2⟩ := rdIt HR.out HB.out hlt
    cases e
    have hlt2 : k < m.length := by omega
    obtain ⟨ad', y, e, HY, i0, i1, i2⟩ := rdIt HR2.out HB.out hlt2
    cases e
    have qh0 := fun u : Ext wr => Ext.cell h0 u
    have qh1 := fun u : Ext wr => Ext.cell h1 u
    have qh2 := fun u : Ext wr => Ext.cell h2 u
    have qi0 := fun u : Ext wr => Ext.cell i0 u
    have qi1 := fun u : Ext wr => Ext.cell i1 u
    have qi2 := fun u : Ext wr => Ext.cell i2 u
    go_wp2
    refine wp_region_ext (by kernel_rfl) (by kernel_rfl) ?_
    repeat (any_goals (first | go_big_quiet_step (fail) | quiet_step (fail) | (refine wpQuiet_step (fun K hK => ?_); go_simp; split <;> (refine hK _ ?_; clear hK K))))
    all_goals (refine wpQuiet_nil ?_; intro u)
    rw [itNe]
    have HB2 := Aside0.mk (bthen HB.out u.bel)
    clear qh0 qh1 qh2 qi0 qi1 qi2
    cases hd : decide (x = y) with
    | true =>
     have HD := Aside0.mk (of_decide_eq_true hd)
     go_wp2
     go_roundw
     case rel => exact ⟨k + 1, by omega, by go_num, ⟨take_nextE HA.out HX.out (by rw [HD.out]; exact HY.out)⟩, HB2⟩
     case measure => simp [intOf]; omega
    | false =>
     have HD := Aside0.mk (of_decide_eq_false hd)
     go_wp2
     go_ret
     exact RetV.mk (vbF (fun e => HD.out (Option.some.inj (HX.out.symm.trans ((congrArg (fun z => z[k]?) e).trans HY.out))))) HB2.out
   ·go_wp2
    go_ret
    exact RetV.mk (vbT (by have := HA.out; rwa [List.take_of_length_le (by omega), List.take_of_length_le (by omega)] at this)) HB.out
 ·have hn2 : ¬ (l.length : Int) = (m.length : Int) := by omega
  go_wp2
  go_ret
  exact RetV.mk (vbF (fun e => hn (by rw [e]))) HB.out
end Go.Proofs.Ytkdendlgaaimbaa.X
