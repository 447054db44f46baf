/- The walks of flows, and what holds of rows, plainly. Conditions: none. -/
import Derived.Test.YthljcnlmeefcjaaYESb
import Derived.Test.YthljcnlmeefcjaaYCPl
import Derived.Test.YthljcnlmeefcjaaYEPl
import Derived.Test.YthljcnlmeefcjaaYEDrawRows
import Derived.RegionTactic
import Derived.BigRegion
namespace Go.Proofs.Ythljcnlmeefcjaa.X
open Go.RowKit Go.Proofs.YthljcnlmeefcjaaW.PrintWords
set_option linter.unusedVariables false
set_option linter.unusedSimpArgs false

end Go.Proofs.Ythljcnlmeefcjaa.X

namespace Go.Proofs.Ythljcnlmeefcjaa.X
open Go.RowKit Go.Proofs.YthljcnlmeefcjaaW.PrintWords
set_option linter.unusedVariables false
set_option linter.unusedSimpArgs false

end Go.Proofs.Ythljcnlmeefcjaa.X

namespace Go.Proofs.Ythljcnlmeefcjaa.X
open Go.RowKit
set_option linter.unusedVariables false
set_option linter.unusedSimpArgs false

end Go.Proofs.Ythljcnlmeefcjaa.X

namespace Go.Proofs.Ythljcnlmeefcjaa.X
open Go.RowKit
set_option linter.unusedVariables false
set_option linter.unusedSimpArgs false

theorem mass_presentOf (l : List Rw) (t : Tm) : massI (presentOf l t) ≤ mass l := by
  unfold presentOf
  rw [mass_itemOf]
  unfold mass
  rw [sg_filter]
  exact sg_le fun x _ => by split <;> omega
end Go.Proofs.Ythljcnlmeefcjaa.X

namespace Go.Proofs.Ythljcnlmeefcjaa.X
open Go.RowKit
set_option linter.unusedVariables false
set_option linter.unusedSimpArgs false

end Go.Proofs.Ythljcnlmeefcjaa.X

