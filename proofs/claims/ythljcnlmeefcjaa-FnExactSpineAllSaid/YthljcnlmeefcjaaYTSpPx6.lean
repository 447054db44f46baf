/- The walks of SpP and of what it calls, printed by a program of this work over the kit's own print; the functions of the X texts are taken from there. Conditions: none. -/
import Derived.Test.YthljcnlmeefcjaaYTSpPx0
import Derived.Test.YthljcnlmeefcjaaYTSpPx2
import Derived.Test.YthljcnlmeefcjaaYTSpPx3
import Derived.Test.YthljcnlmeefcjaaYTSpPx4
namespace Go.Proofs.Ythljcnlmeefcjaa.PSpP
open Go.RowKit Go.Proofs.YthljcnlmeefcjaaW.PrintWords Go.Proofs.YthljcnlmeefcjaaW.PrintLast Go.Proofs.YthljcnlmeefcjaaW.PrintMore
attribute [local go_sem] max2_int min2_int max_two min_two max_three min_three max_four min_four   -- for this text's walks alone
set_option linter.unusedVariables false
set_option linter.unusedSimpArgs false

def spec_BatchAt.f (k : Nat) (l0 : List (S87)) (a1_0 : Int) (a1_1 : Int) : Option (List (S151)) := some (X.batchAt l0 ⟨a1_0, a1_1⟩)
theorem spec_BatchAt.calls (k : Nat) (A0 : Option Addr) (c0 : Nat) (l0 : List (S87)) (a1_0 : Int) (a1_1 : Int) (r : List (S151)) (w : World) (hr0 : Kd.C k87 w A0 l0.length l0) (hc0 : l0.length ≤ c0) (h : spec_BatchAt.f k l0 a1_0 a1_1 = some r) :
    Calls Try.prog 149 #[.slice A0 l0.length c0, .agg #[.int .i64 a1_0, .int .i64 a1_1]] w fun e w' => ∃ v0_ : Value, e = .returned (v0_) ∧ Kd.R k151 151 w' w.heap.size (fun _ => True) v0_ r ∧ Below w.heap.size w w' := by
  unfold spec_BatchAt.f at h
  simp only [Option.some.injEq, Prod.mk.injEq] at h
  subst h
  exact X.spec_BatchAt _ l0 ⟨a1_0, a1_1⟩ w (X.Sl.mk' hr0 hc0)

end Go.Proofs.Ythljcnlmeefcjaa.PSpP

