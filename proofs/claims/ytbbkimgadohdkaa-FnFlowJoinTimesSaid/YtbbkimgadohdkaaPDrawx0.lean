/- The walks of Draw and of what it calls, printed by a program of this work over the kit's own print; the functions of the X texts are taken from there. Conditions: none. -/
import Derived.Test.YtbbkimgadohdkaaProg
import Derived.Below
import Derived.Deep.Draws
import Derived.Deep.AppendLies
import Derived.Maps.AppendAt
import Derived.OwnWalk
import Derived.Laws.BytesArg
import Derived.Laws.MakeOwn
import Derived.Laws.OwnMore
import Derived.Deep.OwnRows
import Derived.Tactics
import Derived.Lib.ConvBytes
import Derived.Laws.Slices
import Derived.WalkKit
import Derived.KernelRfl
import Derived.RowKit3
import Derived.Deep.LoopGhost
import Derived.Deep.QuietTactic
import Derived.BigQuiet
import Derived.WideLaws
import Derived.Deep.DeepCutAuto
import Derived.Deep.CutBlock
import Derived.Deep.RegionHeld3
import Derived.Laws.Rows
import Derived.Lib.AppendStr
import Derived.ArgAppend
import Derived.Laws.IdiomCopy
import Derived.OrdersHeld
import Derived.Laws.BitsLemmas
import Derived.RowKit
import Derived.Test.YtbbkimgadohdkaaXBs
import Derived.Test.YtbbkimgadohdkaaWWords
import Derived.Test.YtbbkimgadohdkaaWLast
import Derived.Test.YtbbkimgadohdkaaWTab
import Derived.Test.YtbbkimgadohdkaaWFour
import Derived.Test.YtbbkimgadohdkaaWQPut
import Derived.Test.YtbbkimgadohdkaaWApart
import Derived.Test.YtbbkimgadohdkaaWArr
import Derived.Test.YtbbkimgadohdkaaWZeros
import Derived.Test.YtbbkimgadohdkaaWFoot
import Derived.Test.YtbbkimgadohdkaaWKept
import Derived.Test.YtbbkimgadohdkaaWShare
import Derived.Test.YtbbkimgadohdkaaWN
import Derived.Test.YtbbkimgadohdkaaWFootNe
import Derived.Test.YtbbkimgadohdkaaWAt
import Derived.Test.YtbbkimgadohdkaaWEqStruct
import Derived.Test.YtbbkimgadohdkaaWRepsOne
import Derived.Test.YtbbkimgadohdkaaWInv
import Derived.Test.YtbbkimgadohdkaaWInvWords
import Derived.Test.YtbbkimgadohdkaaWGuard
import Derived.Test.YtbbkimgadohdkaaWNEv
import Derived.Test.YtbbkimgadohdkaaWMore
namespace Go.Proofs.Ytbbkimgadohdkaa.PDraw
open Go.RowKit Go.Proofs.YtbbkimgadohdkaaW.PrintWords Go.Proofs.YtbbkimgadohdkaaW.PrintLast Go.Proofs.YtbbkimgadohdkaaW.PrintMore
attribute [local go_sem] max2_int min2_int max_two min_two max_three min_three max_four min_four   -- for this text's walks alone
set_option linter.unusedVariables false
set_option linter.unusedSimpArgs false



def errW : Option Int → Value
  | none => .nilIface
  | some c => .iface 0 (.int .i64 c)
theorem errW_none : errW none = .nilIface := rfl
theorem errW_some (c : Int) : errW (some c) = .iface 0 (.int .i64 c) := rfl

theorem info3 : (Try.prog.info? 3).map (fun i => (i.zero, i.size, i.bytes)) = some (some (.int .i64 0), 1, 8) := by kernel_rfl
-- the values' own types

end Go.Proofs.Ytbbkimgadohdkaa.PDraw
