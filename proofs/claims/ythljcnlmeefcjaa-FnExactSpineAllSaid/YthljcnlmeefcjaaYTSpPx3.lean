/- The walks of SpP and of what it calls, printed by a program of this work over the kit's own print; the functions of the X texts are taken from there. Conditions: none. -/
import Derived.Test.YthljcnlmeefcjaaYTSpPx0
namespace Go.Proofs.Ythljcnlmeefcjaa.PSpP
open Go.RowKit Go.Proofs.YthljcnlmeefcjaaW.PrintWords Go.Proofs.YthljcnlmeefcjaaW.PrintLast Go.Proofs.YthljcnlmeefcjaaW.PrintMore
attribute [local go_sem] max2_int min2_int max_two min_two max_three min_three max_four min_four   -- for this text's walks alone
set_option linter.unusedVariables false
set_option linter.unusedSimpArgs false

def spec_l2Sum.f (k : Nat) (l0 : List (S87)) : Option (List (S87)) := if l0.length < 900000000000 then some (X.sum l0) else none
theorem spec_l2Sum.calls (k : Nat) (A0 : Option Addr) (c0 : Nat) (l0 : List (S87)) (r : List (S87)) (w : World) (hr0 : Kd.C k87 w A0 l0.length l0) (hc0 : l0.length ≤ c0) (h : spec_l2Sum.f k l0 = some r) :
    Calls Try.prog 138 #[.slice A0 l0.length c0] w fun e w' => ∃ v0_ : Value, e = .returned (v0_) ∧ Kd.R k87 87 w' w.heap.size (fun _ => True) v0_ r ∧ Below w.heap.size w w' := by
  unfold spec_l2Sum.f at h
  have hq : l0.length < 900000000000 := by
    apply Classical.byContradiction
    intro hn
    rw [if_neg hn] at h
    cases h
  rw [if_pos hq] at h
  simp only [Option.some.injEq, Prod.mk.injEq] at h
  subst h
  exact X.spec_l2Sum _ l0 w (X.Sl.mk' hr0 hc0) hq

def spec_TimeOk.f (k : Nat) (a0_0 : Int) (a0_1 : Int) : Option (Bool) := some (X.tOk ⟨a0_0, a0_1⟩)
theorem spec_TimeOk.calls (k : Nat) (a0_0 : Int) (a0_1 : Int) (r : Bool) (w : World)  (h : spec_TimeOk.f k a0_0 a0_1 = some r) :
    Calls Try.prog 84 #[.agg #[.int .i64 a0_0, .int .i64 a0_1]] w fun e w' => e = .returned (.bool r) ∧ Below w.heap.size w w' := by
  unfold spec_TimeOk.f at h
  simp only [Option.some.injEq, Prod.mk.injEq] at h
  subst h
  exact X.spec_TimeOk a0_0 a0_1 w

end Go.Proofs.Ythljcnlmeefcjaa.PSpP

