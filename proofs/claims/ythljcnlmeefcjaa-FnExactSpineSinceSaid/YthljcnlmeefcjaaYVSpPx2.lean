/- The walks of SpP and of what it calls, printed by a program of this work over the kit's own print; the functions of the X texts are taken from there. Conditions: none. -/
import Derived.Test.YthljcnlmeefcjaaYVSpPx0
import Derived.Test.YthljcnlmeefcjaaYVSpPx1
namespace Go.Proofs.Ythljcnlmeefcjaa.PSpP
open Go.RowKit Go.Proofs.YthljcnlmeefcjaaW.PrintWords Go.Proofs.YthljcnlmeefcjaaW.PrintLast Go.Proofs.YthljcnlmeefcjaaW.PrintMore
attribute [local go_sem] max2_int min2_int max_two min_two max_three min_three max_four min_four   -- for this text's walks alone
set_option linter.unusedVariables false
set_option linter.unusedSimpArgs false

def spec_SpineOk.f (k : Nat) (l0_0 : List (List (S87))) (l0_1 : List (S79)) : Option (Bool) := some (X.spineOk l0_0 l0_1)
theorem spec_SpineOk.calls (k : Nat) (A0_0 : Option Addr) (c0_0 : Nat) (l0_0 : List (List (S87))) (A0_1 : Option Addr) (c0_1 : Nat) (l0_1 : List (S79)) (r : Bool) (w : World) (hr0_0 : Kd.C (Kd.slice 87 k87) w A0_0 l0_0.length l0_0) (hc0_0 : l0_0.length ≤ c0_0) (hr0_1 : Kd.C k79 w A0_1 l0_1.length l0_1) (hc0_1 : l0_1.length ≤ c0_1) (h : spec_SpineOk.f k l0_0 l0_1 = some r) :
    Calls Try.prog 83 #[.agg #[.slice A0_0 l0_0.length c0_0, .slice A0_1 l0_1.length c0_1]] w fun e w' => e = .returned (.bool r) ∧ Below w.heap.size w w' := by
  unfold spec_SpineOk.f at h
  simp only [Option.some.injEq, Prod.mk.injEq] at h
  subst h
  exact X.spec_SpineOk _ _ l0_0 l0_1 w (X.Sl.mk' hr0_0 hc0_0) (X.Sl.mk' hr0_1 hc0_1)

end Go.Proofs.Ythljcnlmeefcjaa.PSpP

