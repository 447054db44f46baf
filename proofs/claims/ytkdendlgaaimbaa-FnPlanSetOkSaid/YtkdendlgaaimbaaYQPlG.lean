/- Conditions: none. -/
import Derived.Test.YtkdendlgaaimbaaYQFs
import Derived.Test.YtkdendlgaaimbaaYQSb
import Derived.Test.YtkdendlgaaimbaaYCPl
import Derived.Test.YtkdendlgaaimbaaYQPl
import Derived.Test.YtkdendlgaaimbaaYQDrawRows
import Derived.RegionTactic
import Derived.BigRegion
namespace Go.Proofs.Ytkdendlgaaimbaa.X
open Go.RowKit
set_option linter.unusedVariables false
set_option linter.unusedSimpArgs false
theorem keyO_keys (s : List It) (k : Int) : ∀ x ∈ keyO s k, x.f0 = k ∧ x.f2 = 1 := fun x hx => by
 unfold keyO onceL at hx
 obtain ⟨y, hy, rfl⟩ := List.mem_map.1 hx
 exact ⟨of_decide_eq_true (List.mem_filter.1 (List.mem_filter.1 hy).1).2, rfl⟩
end Go.Proofs.Ytkdendlgaaimbaa.X
