/- The walks of Draw and of what it calls, printed by a program of this work over the kit's own print; the functions of the X texts are taken from there. Conditions: none. -/
import Derived.Test.YthljcnlmeefcjaaProg
import Derived.Below
import Derived.Deep.Draws
import Derived.Deep.AppendLies
import Derived.Maps.AppendAt
import Derived.OwnWalk
import Derived.Laws.BytesArg
import Derived.Laws.MakeOwn
import Derived.Laws.OwnMore
import Derived.Deep.OwnRows
import Derived.Tactics
import Derived.Lib.ConvBytes
import Derived.Laws.Slices
import Derived.WalkKit
import Derived.KernelRfl
import Derived.RowKit3
import Derived.Deep.LoopGhost
import Derived.Deep.QuietTactic
import Derived.BigQuiet
import Derived.WideLaws
import Derived.Deep.DeepCutAuto
import Derived.Deep.CutBlock
import Derived.Deep.RegionHeld3
import Derived.Laws.Rows
import Derived.Lib.AppendStr
import Derived.ArgAppend
import Derived.Laws.IdiomCopy
import Derived.OrdersHeld
import Derived.Laws.BitsLemmas
import Derived.RowKit
import Derived.Test.YthljcnlmeefcjaaYCBs
import Derived.Test.YthljcnlmeefcjaaYMBs
import Derived.Test.YthljcnlmeefcjaaWWords
import Derived.Test.YthljcnlmeefcjaaWLast
import Derived.Test.YthljcnlmeefcjaaWTab
import Derived.Test.YthljcnlmeefcjaaWFour
import Derived.Test.YthljcnlmeefcjaaWQPut
import Derived.Test.YthljcnlmeefcjaaWApart
import Derived.Test.YthljcnlmeefcjaaWArr
import Derived.Test.YthljcnlmeefcjaaWZeros
import Derived.Test.YthljcnlmeefcjaaWFoot
import Derived.Test.YthljcnlmeefcjaaWKept
import Derived.Test.YthljcnlmeefcjaaWShare
import Derived.Test.YthljcnlmeefcjaaWN
import Derived.Test.YthljcnlmeefcjaaWFootNe
import Derived.Test.YthljcnlmeefcjaaWAt
import Derived.Test.YthljcnlmeefcjaaWEqStruct
import Derived.Test.YthljcnlmeefcjaaWRepsOne
import Derived.Test.YthljcnlmeefcjaaWInv
import Derived.Test.YthljcnlmeefcjaaWInvWords
import Derived.Test.YthljcnlmeefcjaaWGuard
import Derived.Test.YthljcnlmeefcjaaWNEv
import Derived.Test.YthljcnlmeefcjaaWMore
namespace Go.Proofs.Ythljcnlmeefcjaa.PDraw
open Go.RowKit Go.Proofs.YthljcnlmeefcjaaW.PrintWords Go.Proofs.YthljcnlmeefcjaaW.PrintLast Go.Proofs.YthljcnlmeefcjaaW.PrintMore
attribute [local go_sem] max2_int min2_int max_two min_two max_three min_three max_four min_four   -- for this text's walks alone
set_option linter.unusedVariables false
set_option linter.unusedSimpArgs false



def errW : Option Int → Value
  | none => .nilIface
  | some c => .iface 0 (.int .i64 c)
theorem errW_none : errW none = .nilIface := rfl
theorem errW_some (c : Int) : errW (some c) = .iface 0 (.int .i64 c) := rfl

theorem info3 : (Try.prog.info? 3).map (fun i => (i.zero, i.size, i.bytes)) = some (some (.int .i64 0), 1, 8) := by kernel_rfl
-- the values' own types

end Go.Proofs.Ythljcnlmeefcjaa.PDraw
