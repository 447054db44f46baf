/- '==' of structs, as one Bool. Conditions: none. -/
import Derived.Test.YthljcnlmeefcjaaGreatYMSa
import Derived.Test.YthljcnlmeefcjaaGreatWEqStruct
namespace Go.Proofs.YthljcnlmeefcjaaGreat.X
open Go.RowKit Go.Proofs.YthljcnlmeefcjaaGreatW.PrintWords
set_option linter.unusedVariables false
set_option linter.unusedSimpArgs false

theorem eqATm (d : Nat) (w : World) (x0 y0 x1 y1 : Int) : (Op.equalIn (d + 2) 49 (.agg #[.int .i64 x0, .int .i64 x1]) (.agg #[.int .i64 y0, .int .i64 y1])).run Tryz.prog w = .ok (x0 == y0 && (x1 == y1)) w := by
  refine eqA_of Tryz.underlying49 (by kernel_rfl) ?_
  refine eqf_cons (by rfl) (by go_simp; rfl) (by go_simp; rfl) (by go_simp) ?_
  exact eqf_last (by rfl) (by go_simp; rfl) (by go_simp; rfl) (by go_simp)
theorem tmEq {x y : Tm} : (x.f0 == y.f0 && (x.f1 == y.f1)) = decide (x = y) := by
  rw [Bool.eq_iff_iff]; simp
  exact ⟨fun h => Tm.ext' h.1 h.2, fun h => by rw [h]; simp⟩
theorem eqAIt (d : Nat) (w : World) (x0 y0 x1 y1 x2 y2 : Int) : (Op.equalIn (d + 2) 83 (.agg #[.int .i64 x0, .int .i64 x1, .int .i64 x2]) (.agg #[.int .i64 y0, .int .i64 y1, .int .i64 y2])).run Tryz.prog w = .ok (x0 == y0 && (x1 == y1 && (x2 == y2))) w := by
  refine eqA_of Tryz.underlying83 (by kernel_rfl) ?_
  refine eqf_cons (by rfl) (by go_simp; rfl) (by go_simp; rfl) (by go_simp) ?_
  refine eqf_cons (by rfl) (by go_simp; rfl) (by go_simp; rfl) (by go_simp) ?_
  exact eqf_last (by rfl) (by go_simp; rfl) (by go_simp; rfl) (by go_simp)
theorem itEq {x y : It} : (x.f0 == y.f0 && (x.f1 == y.f1 && (x.f2 == y.f2))) = decide (x = y) := by
  rw [Bool.eq_iff_iff]; simp
  exact ⟨fun h => It.ext' h.1 h.2.1 h.2.2, fun h => by rw [h]; simp⟩
theorem itNe {x y : It} : (!x.f0 == y.f0 || (!x.f1 == y.f1 || !x.f2 == y.f2)) = !decide (x = y) := by
  rw [← itEq]; simp [Bool.not_and]
theorem eqARw (d : Nat) (w : World) (x0 y0 x1 y1 x2 y2 x3 y3 x4 y4 : Int) : (Op.equalIn (d + 3) 65 (.agg #[.int .i64 x0, .int .i64 x1, .int .i64 x2, .int .i64 x3, .int .i64 x4]) (.agg #[.int .i64 y0, .int .i64 y1, .int .i64 y2, .int .i64 y3, .int .i64 y4])).run Tryz.prog w = .ok (x0 == y0 && (x1 == y1 && ((x2 == y2 && (x3 == y3)) && (x4 == y4)))) w := by
  refine eqA_of Tryz.underlying65 (by kernel_rfl) ?_
  refine eqf_cons (by rfl) (by go_simp; rfl) (by go_simp; rfl) (by go_simp) ?_
  refine eqf_cons (by rfl) (by go_simp; rfl) (by go_simp; rfl) (by go_simp) ?_
  refine eqf_cons (by rfl) (by go_simp) (by go_simp) (eqATm d w _ _ _ _) ?_
  exact eqf_last (by rfl) (by go_simp; rfl) (by go_simp; rfl) (by go_simp)
theorem rwEq {x y : Rw} : (x.f0 == y.f0 && (x.f1 == y.f1 && ((x.f2.f0 == y.f2.f0 && (x.f2.f1 == y.f2.f1)) && (x.f3 == y.f3)))) = decide (x = y) := by
  rw [Bool.eq_iff_iff]; simp
  exact ⟨fun h => Rw.ext' h.1 h.2.1 (Tm.ext' h.2.2.1.1 h.2.2.1.2) h.2.2.2, fun h => by rw [h]; simp⟩
theorem rwNe {x y : Rw} : (!x.f0 == y.f0 || (!x.f1 == y.f1 || ((!x.f2.f0 == y.f2.f0 || !x.f2.f1 == y.f2.f1) || !x.f3 == y.f3))) = !decide (x = y) := by
  rw [← rwEq]; simp [Bool.not_and]
end Go.Proofs.YthljcnlmeefcjaaGreat.X

