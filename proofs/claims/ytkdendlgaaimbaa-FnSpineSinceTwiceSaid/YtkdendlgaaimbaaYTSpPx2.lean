/- Conditions: none. -/
import Derived.Test.YtkdendlgaaimbaaYTSpPx0
import Derived.Test.YtkdendlgaaimbaaYTSpPx1
namespace Go.Proofs.Ytkdendlgaaimbaa.PSpP
open Go.RowKit Go.Proofs.YtkdendlgaaimbaaW.PrintWords Go.Proofs.YtkdendlgaaimbaaW.PrintLast Go.Proofs.YtkdendlgaaimbaaW.PrintMore
attribute [local go_sem] max2_int min2_int max_two min_two max_three min_three max_four min_four
set_option linter.unusedVariables false
set_option linter.unusedSimpArgs false
def spec_SpineOk.f (k : Nat) (l0_0 : List (List (S102))) (l0_1 : List (S43)) : Option (Bool) := some (X.spineOk l0_0 l0_1)
theorem spec_SpineOk.calls (k : Nat) (A0_0 : Option Addr) (c0_0 : Nat) (l0_0 : List (List (S102))) (A0_1 : Option Addr) (c0_1 : Nat) (l0_1 : List (S43)) (r : Bool) (w : World) (hr0_0 : Kd.C (Kd.slice 102 k102) w A0_0 l0_0.length l0_0) (hc0_0 : l0_0.length ≤ c0_0) (hr0_1 : Kd.C k43 w A0_1 l0_1.length l0_1) (hc0_1 : l0_1.length ≤ c0_1) (h : spec_SpineOk.f k l0_0 l0_1 = some r) :
  Calls Try.prog 28 #[.agg #[.slice A0_0 l0_0.length c0_0, .slice A0_1 l0_1.length c0_1]] w fun e w' => e = .returned (.bool r) ∧ Below w.heap.size w w' := by
 unfold spec_SpineOk.f at h
 simp only [Option.some.injEq, Prod.mk.injEq] at h
 subst h
 exact X.spec_SpineOk _ _ l0_0 l0_1 w (X.Sl.mk' hr0_0 hc0_0) (X.Sl.mk' hr0_1 hc0_1)
end Go.Proofs.Ytkdendlgaaimbaa.PSpP
