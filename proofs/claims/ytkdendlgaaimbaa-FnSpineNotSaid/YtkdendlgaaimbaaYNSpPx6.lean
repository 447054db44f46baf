/- Conditions: none. -/
import Derived.Test.YtkdendlgaaimbaaYNSpPx0
import Derived.Test.YtkdendlgaaimbaaYNSpPx2
import Derived.Test.YtkdendlgaaimbaaYNSpPx3
import Derived.Test.YtkdendlgaaimbaaYNSpPx4
namespace Go.Proofs.Ytkdendlgaaimbaa.PSpP
open Go.RowKit Go.Proofs.YtkdendlgaaimbaaW.PrintWords Go.Proofs.YtkdendlgaaimbaaW.PrintLast Go.Proofs.YtkdendlgaaimbaaW.PrintMore
attribute [local go_sem] max2_int min2_int max_two min_two max_three min_three max_four min_four
set_option linter.unusedVariables false
set_option linter.unusedSimpArgs false
def spec_BatchAt.f (k : Nat) (l0 : List (S102)) (a1_0 : Int) (a1_1 : Int) : Option (List (S118)) := some (X.batchAt l0 ⟨a1_0, a1_1⟩)
theorem spec_BatchAt.calls (k : Nat) (A0 : Option Addr) (c0 : Nat) (l0 : List (S102)) (a1_0 : Int) (a1_1 : Int) (r : List (S118)) (w : World) (hr0 : Kd.C k102 w A0 l0.length l0) (hc0 : l0.length ≤ c0) (h : spec_BatchAt.f k l0 a1_0 a1_1 = some r) :
  Calls Try.prog 90 #[.slice A0 l0.length c0, .agg #[.int .i64 a1_0, .int .i64 a1_1]] w fun e w' => ∃ v0_ : Value, e = .returned (v0_) ∧ Kd.R k118 118 w' w.heap.size (fun _ => True) v0_ r ∧ Below w.heap.size w w' := by
 unfold spec_BatchAt.f at h
 simp only [Option.some.injEq, Prod.mk.injEq] at h
 subst h
 exact X.spec_BatchAt _ l0 ⟨a1_0, a1_1⟩ w (X.Sl.mk' hr0 hc0)
end Go.Proofs.Ytkdendlgaaimbaa.PSpP
