/- Conditions: none. -/
import Derived.Test.YtkdendlgaaimbaaYNSpPx0
namespace Go.Proofs.Ytkdendlgaaimbaa.PSpP
open Go.RowKit Go.Proofs.YtkdendlgaaimbaaW.PrintWords Go.Proofs.YtkdendlgaaimbaaW.PrintLast Go.Proofs.YtkdendlgaaimbaaW.PrintMore
attribute [local go_sem] max2_int min2_int max_two min_two max_three min_three max_four min_four
set_option linter.unusedVariables false
set_option linter.unusedSimpArgs false
def spec_TimeOk.f (k : Nat) (a0_0 : Int) (a0_1 : Int) : Option (Bool) := some (X.tOk ⟨a0_0, a0_1⟩)
theorem spec_TimeOk.calls (k : Nat) (a0_0 : Int) (a0_1 : Int) (r : Bool) (w : World)  (h : spec_TimeOk.f k a0_0 a0_1 = some r) :
  Calls Try.prog 29 #[.agg #[.int .i64 a0_0, .int .i64 a0_1]] w fun e w' => e = .returned (.bool r) ∧ Below w.heap.size w w' := by
 unfold spec_TimeOk.f at h
 simp only [Option.some.injEq, Prod.mk.injEq] at h
 subst h
 exact X.spec_TimeOk a0_0 a0_1 w
end Go.Proofs.Ytkdendlgaaimbaa.PSpP
