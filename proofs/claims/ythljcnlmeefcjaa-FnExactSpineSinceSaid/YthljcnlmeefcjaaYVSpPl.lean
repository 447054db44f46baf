/- Spines, plainly: what they say, and that joining layers, adding a batch and moving the front keep it. Conditions: spines that are ok. -/
import Derived.Test.YthljcnlmeefcjaaYVPlH
namespace Go.Proofs.Ythljcnlmeefcjaa.X
open Go.RowKit
set_option linter.unusedVariables false
set_option linter.unusedSimpArgs false

def askOk (f : List Tm) (t : Tm) : Bool := f.isEmpty || beyond f t
end Go.Proofs.Ythljcnlmeefcjaa.X

