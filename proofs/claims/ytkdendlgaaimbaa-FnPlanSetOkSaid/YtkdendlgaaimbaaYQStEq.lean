/- Conditions: none. -/
import Derived.Test.YtkdendlgaaimbaaYQSa
import Derived.Test.YtkdendlgaaimbaaVAEqStruct
namespace Go.Proofs.Ytkdendlgaaimbaa.X
open Go.RowKit Go.Proofs.YtkdendlgaaimbaaW.PrintWords
set_option linter.unusedVariables false
set_option linter.unusedSimpArgs false
theorem eqAIt (d : Nat) (w : World) (x0 y0 x1 y1 x2 y2 : Int) : (Op.equalIn (d + 2) 118 (.agg #[.int .i64 x0, .int .i64 x1, .int .i64 x2]) (.agg #[.int .i64 y0, .int .i64 y1, .int .i64 y2])).run Try.prog w = .ok (x0 == y0 && (x1 == y1 && (x2 == y2))) w := by
 refine eqA_of Try.underlying118 (by kernel_rfl) ?_
 refine eqf_cons (by rfl) (by go_simp; rfl) (by go_simp; rfl) (by go_simp) ?_
 refine eqf_cons (by rfl) (by go_simp; rfl) (by go_simp; rfl) (by go_simp) ?_
 exact eqf_last (by rfl) (by go_simp; rfl) (by go_simp; rfl) (by go_simp)
theorem itEq {x y : It} : (x.f0 == y.f0 && (x.f1 == y.f1 && (x.f2 == y.f2))) = decide (x = y) := by
 rw [Bool.eq_iff_iff]; simp
 exact ⟨fun h => It.ext' h.1 h.2.1 h.2.2, fun h => by rw [h]; simp⟩
theorem itNe {x y : It} : (!x.f0 == y.f0 || (!x.f1 == y.f1 || !x.f2 == y.f2)) = !decide (x = y) := by
 rw [← itEq]; simp [Bool.not_and]
end Go.Proofs.Ytkdendlgaaimbaa.X
