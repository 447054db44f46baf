/- More draws of collections. Conditions: a reader of at most 2000 bytes, few draws so far. -/
import Derived.Test.YtlmglffdmoklcaaXDrSet
import Derived.RegionTactic
import Derived.BigRegion
namespace Go.Proofs.Ytlmglffdmoklcaa.X
open Go.RowKit Go.Proofs.YtlmglffdmoklcaaW.PrintWords
set_option linter.unusedVariables false
set_option linter.unusedSimpArgs false

theorem lit3 {w : World} {g : Nat} {t : TypeId} {a b c : Int} (h : w.heap[g]? = some (.cells #[.int .i64 a, .int .i64 b, .int .i64 c] t (0, 0))) (j : Nat) (hj : j < 3) : ∃ x, w.cell? ⟨g, j, none⟩ = some (.int .i64 x) ∧ (x = a ∨ x = b ∨ x = c) := by
  rcases (show j = 0 ∨ j = 1 ∨ j = 2 by omega) with rfl | rfl | rfl
  · exact ⟨a, blk_cell h 0, .inl rfl⟩
  · exact ⟨b, blk_cell h 1, .inr (.inl rfl)⟩
  · exact ⟨c, blk_cell h 2, .inr (.inr rfl)⟩
theorem Rd.drew {w0 : World} {rb : Nat} {s : List Int} {p : Int} {W : World} (h : Rd w0 rb s p W) : Rd w0 rb s p W.drew := h.below (below_drew (Below.refl _ _))
end Go.Proofs.Ytlmglffdmoklcaa.X
