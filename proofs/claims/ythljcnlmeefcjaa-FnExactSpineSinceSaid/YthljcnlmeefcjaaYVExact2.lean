/- The walks of the exact laws' own helpers: sizes, times. Conditions: none. -/
import Derived.Test.YthljcnlmeefcjaaYCBs
import Derived.Test.YthljcnlmeefcjaaYVBs
import Derived.Test.YthljcnlmeefcjaaYVLw
namespace Go.Proofs.Ythljcnlmeefcjaa.X
open Go.RowKit Go.Proofs.YthljcnlmeefcjaaW.PrintWords
set_option linter.unusedVariables false
set_option linter.unusedSimpArgs false

set_option maxRecDepth 100000 in
set_option maxHeartbeats 2000000 in
theorem laws_eqTimeS (v v2 : Value) (l m : List Tm) (w : World) (h : Sl kTm w v l) (h2 : Sl kTm w v2 m) : Calls Try.prog 45 #[v, v2] w (RetV w (.bool (decide (l = m)))) := by
  obtain ⟨A, c_, rfl, HC, hr⟩ := h
  have hm := Kd.C_max hr
  have HR := Aside0.mk hr
  clear hr
  obtain ⟨A2, c2_, rfl, HC2, hr2⟩ := h2
  have hm2 := Kd.C_max hr2
  have HR2 := Aside0.mk hr2
  clear hr2
  have HB := Aside0.mk (Below.refl w.heap.size w)
  go_enter Try.func45, Try.ntmps45
  by_cases hn : l.length = m.length
  · go_wp2
    go_loopw [5] (fun i wr => ∃ k : Nat, k ≤ l.length ∧ i = .int .i64 k ∧ Aside0 (l.take k = m.take k) ∧ Aside0 (Below w.heap.size w wr)) (fun i _ => l.length - (intOf i).toNat)
    case atStart => exact ⟨0, Nat.zero_le _, rfl, ⟨by simp⟩, HB⟩
    case round =>
      obtain ⟨k, hk, rfl, HA, HB⟩ := hrel
      by_cases hlt : k < l.length
      · obtain ⟨ad, x, e, HX, h0, h1⟩ := rdTm HR.out HB.out hlt
        cases e
        have hlt2 : k < m.length := by omega
        obtain ⟨ad', y, e, HY, i0, i1⟩ := rdTm HR2.out HB.out hlt2
        cases e
        have q0 := fun u : Ext wr => Ext.cell h0 u
        have q1 := fun u : Ext wr => Ext.cell h1 u
        have r0 := fun u : Ext wr => Ext.cell i0 u
        have r1 := fun u : Ext wr => Ext.cell i1 u
        cases hd : (decide (x.f0 = y.f0) && decide (x.f1 = y.f1)) with
        | true =>
          have HD := Aside0.mk (show x = y by simp only [Bool.and_eq_true, decide_eq_true_eq] at hd; exact Tm.ext' hd.1 hd.2)
          go_wp2
          refine wp_region_ext (by kernel_rfl) (by kernel_rfl) ?_
          repeat (any_goals (first | go_big_quiet_step ((go_at_call 132; exact Calls.extV (laws_eqTime x.f0 x.f1 y.f0 y.f1 _))) | quiet_step ((go_at_call 132; exact Calls.extV (laws_eqTime x.f0 x.f1 y.f0 y.f1 _))) | (refine wpQuiet_step (fun K hK => ?_); go_simp; split <;> (refine hK _ ?_; clear hK K))))
          all_goals (refine wpQuiet_nil ?_; intro u)
          have HB2 := Aside0.mk (bthen HB.out u.bel)
          clear q0 q1 r0 r1
          go_wp2
          go_roundw
          case rel => exact ⟨k + 1, by omega, by go_num, ⟨take_nextE HA.out HX.out (by rw [HD.out]; exact HY.out)⟩, HB2⟩
          case measure => simp [intOf]; omega
        | false =>
          have HD := Aside0.mk (show ¬ x = y by intro e; subst e; simp at hd)
          go_wp2
          refine wp_region_ext (by kernel_rfl) (by kernel_rfl) ?_
          repeat (any_goals (first | go_big_quiet_step ((go_at_call 132; exact Calls.extV (laws_eqTime x.f0 x.f1 y.f0 y.f1 _))) | quiet_step ((go_at_call 132; exact Calls.extV (laws_eqTime x.f0 x.f1 y.f0 y.f1 _))) | (refine wpQuiet_step (fun K hK => ?_); go_simp; split <;> (refine hK _ ?_; clear hK K))))
          all_goals (refine wpQuiet_nil ?_; intro u)
          have HB2 := Aside0.mk (bthen HB.out u.bel)
          clear q0 q1 r0 r1
          go_wp2
          go_ret
          exact RetV.mk (vbF (fun e => HD.out (Option.some.inj (HX.out.symm.trans ((congrArg (fun z => z[k]?) e).trans HY.out))))) HB2.out
      · go_wp2
        go_ret
        exact RetV.mk (vbT (by have := HA.out; rwa [List.take_of_length_le (by omega), List.take_of_length_le (by omega)] at this)) HB.out
  · have hn2 : ¬ (l.length : Int) = (m.length : Int) := by omega
    go_wp2
    go_ret
    exact RetV.mk (vbF (fun e => hn (by rw [e]))) HB.out
end Go.Proofs.Ythljcnlmeefcjaa.X

