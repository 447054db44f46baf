/- The walks of the functions that sum by a map. Conditions: none. -/
import Derived.Test.YthljcnlmeefcjaaYCBs
import Derived.Test.YthljcnlmeefcjaaYEBs
import Derived.WideKeyEntry
import Derived.Maps.RangeWalk
import Derived.Maps.OwnOps
import Derived.Maps.Ext
import Derived.DeepKeys4
import Derived.MapViews
import Derived.Test.YthljcnlmeefcjaaYCSo
import Derived.Shelf.SlSortFuncK.WholeK
import Derived.Shelf.GgSortFunc.Tiny
import Derived.Test.YthljcnlmeefcjaaProg
import Derived.Sort.LotA
import Derived.Sort.OwnSorted
import Derived.Deep.QuietTactic
import Derived.BigQuiet
import Derived.Shelf.SlSortFuncK.ComposeK
import Derived.Shelf.GgSortFunc.SmallK
import Derived.Shelf.GgSortFunc.LotD
import Derived.Sort.WalkB3
import Derived.Below
import Derived.Test.YthljcnlmeefcjaaYCPl
import Derived.Test.YthljcnlmeefcjaaYEPl
import Derived.RegionTactic
import Derived.BigRegion
import Derived.Test.YthljcnlmeefcjaaYCSr
import Derived.Test.YthljcnlmeefcjaaYCSrtB
import Derived.Sort.Walk11
import Derived.Sort.LotD1
import Derived.Sort.LotD4
import Derived.Test.YthljcnlmeefcjaaYCSq
import Derived.Sort.WalkA6
import Derived.Sort.WalkB2
import Derived.Sort.WalkC4
import Derived.Deep.LoopGhost
import Derived.Shelf.SlSortFuncK.BreakPatternsK
import Derived.Sort.Walk13
import Derived.Sort.AssemblyPlain
import Derived.Test.YthljcnlmeefcjaaYCMg
namespace Go.Proofs.Ythljcnlmeefcjaa.X
open Go.RowKit Go.WideElems Go.MapKept Go.ChangeMaps Go.ChangeShapes Go.WideShapes Go.Proofs.YthljcnlmeefcjaaW.PrintWords
open Go.WideMaps (KeyLaw)
open Go.Maps (Keyed)
set_option linter.unusedVariables false
set_option linter.unusedSimpArgs false

end Go.Proofs.Ythljcnlmeefcjaa.X

namespace Go.Proofs.Ythljcnlmeefcjaa.X
open Go.RowKit Go.WideElems Go.MapKept Go.ChangeMaps Go.ChangeShapes Go.WideShapes Go.Proofs.YthljcnlmeefcjaaW.PrintWords
open Go.WideMaps (KeyLaw)
open Go.Maps (Keyed)
set_option linter.unusedVariables false
set_option linter.unusedSimpArgs false

set_option maxRecDepth 100000 in
theorem lawTm : KeyLaw Try.prog 79 := deep_law_laid laidOut (m := 2) (by omega) (of_decide_eq_true (by kernel_rfl)) (by kernel_rfl) (by rw [Try.underlying79])
def litTm (a b : Int) : Lit := .string (keyBytes [.int .i64 a, .int .i64 b])
set_option maxRecDepth 100000 in
theorem keyTm {a b : Int} (ha : (Lit.int .i64 a).wf = true) (hb : (Lit.int .i64 b).wf = true) : keyOf Try.prog 79 (.agg #[.int .i64 a, .int .i64 b]) = some (litTm a b) := by
  have hk : Try.prog.keyType 79 = true := by kernel_rfl
  have hf : (Value.agg #[.int .i64 a, .int .i64 b]).formed Try.prog 79 = true := by simp [Value.formed, Try.underlying79, cellsTmI]
  obtain ⟨m, hm⟩ := typesPos
  have hl := keyLitsTm (m := m) ha hb
  rw [← hm] at hl
  unfold keyOf
  rw [Try.underlying79]
  simp only [hk, hf, Bool.and_self, if_true]
  rw [show (Value.agg #[.int .i64 a, .int .i64 b]).cells.toList = [.int .i64 a, .int .i64 b] from rfl, hl]
  rfl
end Go.Proofs.Ythljcnlmeefcjaa.X

namespace Go.Proofs.Ythljcnlmeefcjaa.X
open Go.RowKit Go.WideElems Go.MapKept Go.ChangeMaps Go.ChangeShapes Go.WideShapes Go.Proofs.YthljcnlmeefcjaaW.PrintWords
open Go.WideMaps (KeyLaw)
open Go.Maps (Keyed)
set_option linter.unusedVariables false
set_option linter.unusedSimpArgs false

end Go.Proofs.Ythljcnlmeefcjaa.X

namespace Go.Proofs.Ythljcnlmeefcjaa.X
open Go.RowKit Go.WideElems Go.MapKept Go.ChangeMaps Go.ChangeShapes Go.WideShapes Go.Proofs.YthljcnlmeefcjaaW.PrintWords
open Go.WideMaps (KeyLaw)
open Go.Maps (Keyed)
set_option linter.unusedVariables false
set_option linter.unusedSimpArgs false

end Go.Proofs.Ythljcnlmeefcjaa.X

