/- '==' of structs, as one Bool. Conditions: none. -/
import Derived.Test.YthljcnlmeefcjaaYESa
import Derived.Test.YthljcnlmeefcjaaWEqStruct
namespace Go.Proofs.Ythljcnlmeefcjaa.X
open Go.RowKit Go.Proofs.YthljcnlmeefcjaaW.PrintWords
set_option linter.unusedVariables false
set_option linter.unusedSimpArgs false

theorem eqATm (d : Nat) (w : World) (x0 y0 x1 y1 : Int) : (Op.equalIn (d + 2) 79 (.agg #[.int .i64 x0, .int .i64 x1]) (.agg #[.int .i64 y0, .int .i64 y1])).run Try.prog w = .ok (x0 == y0 && (x1 == y1)) w := by
  refine eqA_of Try.underlying79 (by kernel_rfl) ?_
  refine eqf_cons (by rfl) (by go_simp; rfl) (by go_simp; rfl) (by go_simp) ?_
  exact eqf_last (by rfl) (by go_simp; rfl) (by go_simp; rfl) (by go_simp)
theorem tmEq {x y : Tm} : (x.f0 == y.f0 && (x.f1 == y.f1)) = decide (x = y) := by
  rw [Bool.eq_iff_iff]; simp
  exact ⟨fun h => Tm.ext' h.1 h.2, fun h => by rw [h]; simp⟩
end Go.Proofs.Ythljcnlmeefcjaa.X

