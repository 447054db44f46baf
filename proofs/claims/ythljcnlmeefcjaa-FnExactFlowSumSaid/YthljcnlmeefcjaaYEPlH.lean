/- Changes of sums, and rows moved to a front, told as the laws tell it. Plain lemmas. Conditions: few rows. -/
import Derived.Test.YthljcnlmeefcjaaYEFs
import Derived.Test.YthljcnlmeefcjaaYEFl
import Derived.Test.YthljcnlmeefcjaaYEDrawRows
import Derived.Test.YthljcnlmeefcjaaYESb
import Derived.RegionTactic
import Derived.BigRegion
namespace Go.Proofs.Ythljcnlmeefcjaa.X
open Go.RowKit
set_option linter.unusedVariables false
set_option linter.unusedSimpArgs false

theorem flowSum_ok {a : List Rw} {kind : Int} : batchOk (flowSum a kind) = true := by
  unfold flowSum
  split
  · unfold fit
    split
    · assumption
    · rfl
  · rfl
end Go.Proofs.Ythljcnlmeefcjaa.X

