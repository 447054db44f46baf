/- The walks of Draw and of what it calls, printed by a program of this work over the kit's own print; the functions of the X texts are taken from there. Conditions: none. -/
import Derived.Test.YtdppnipodndcpaaProg
import Derived.Below
import Derived.Deep.Draws
import Derived.Deep.AppendLies
import Derived.Maps.AppendAt
import Derived.OwnWalk
import Derived.Laws.BytesArg
import Derived.Laws.MakeOwn
import Derived.Laws.OwnMore
import Derived.Deep.OwnRows
import Derived.Tactics
import Derived.Lib.ConvBytes
import Derived.Laws.Slices
import Derived.WalkKit
import Derived.KernelRfl
import Derived.RowKit3
import Derived.Deep.LoopGhost
import Derived.Deep.QuietTactic
import Derived.BigQuiet
import Derived.WideLaws
import Derived.Deep.DeepCutAuto
import Derived.Deep.CutBlock
import Derived.Deep.RegionHeld3
import Derived.Laws.Rows
import Derived.Lib.AppendStr
import Derived.ArgAppend
import Derived.Laws.IdiomCopy
import Derived.OrdersHeld
import Derived.Laws.BitsLemmas
import Derived.RowKit
import Derived.Test.YtdppnipodndcpaaXBs
import Derived.Test.YtdppnipodndcpaaWWords
import Derived.Test.YtdppnipodndcpaaWLast
import Derived.Test.YtdppnipodndcpaaWTab
import Derived.Test.YtdppnipodndcpaaWFour
import Derived.Test.YtdppnipodndcpaaWQPut
import Derived.Test.YtdppnipodndcpaaWApart
import Derived.Test.YtdppnipodndcpaaWArr
import Derived.Test.YtdppnipodndcpaaWZeros
import Derived.Test.YtdppnipodndcpaaWFoot
import Derived.Test.YtdppnipodndcpaaWKept
import Derived.Test.YtdppnipodndcpaaWShare
import Derived.Test.YtdppnipodndcpaaWN
import Derived.Test.YtdppnipodndcpaaWFootNe
import Derived.Test.YtdppnipodndcpaaWAt
import Derived.Test.YtdppnipodndcpaaWEqStruct
import Derived.Test.YtdppnipodndcpaaWRepsOne
import Derived.Test.YtdppnipodndcpaaWInv
import Derived.Test.YtdppnipodndcpaaWInvWords
import Derived.Test.YtdppnipodndcpaaWGuard
import Derived.Test.YtdppnipodndcpaaWNEv
import Derived.Test.YtdppnipodndcpaaWMore
namespace Go.Proofs.Ytdppnipodndcpaa.PDraw
open Go.RowKit Go.Proofs.YtdppnipodndcpaaW.PrintWords Go.Proofs.YtdppnipodndcpaaW.PrintLast Go.Proofs.YtdppnipodndcpaaW.PrintMore
attribute [local go_sem] max2_int min2_int max_two min_two max_three min_three max_four min_four   -- for this text's walks alone
set_option linter.unusedVariables false
set_option linter.unusedSimpArgs false



def errW : Option Int → Value
  | none => .nilIface
  | some c => .iface 0 (.int .i64 c)
theorem errW_none : errW none = .nilIface := rfl
theorem errW_some (c : Int) : errW (some c) = .iface 0 (.int .i64 c) := rfl

theorem info3 : (Try.prog.info? 3).map (fun i => (i.zero, i.size, i.bytes)) = some (some (.int .i64 0), 1, 8) := by kernel_rfl
-- the values' own types

end Go.Proofs.Ytdppnipodndcpaa.PDraw
