/- The walks of the functions that sum by a map. Conditions: none. -/
import Derived.Test.YthljcnlmeefcjaaGreatYCBs
import Derived.Test.YthljcnlmeefcjaaGreatYMBs
import Derived.WideKeyEntry
import Derived.Maps.RangeWalk
import Derived.Maps.OwnOps
import Derived.Maps.Ext
import Derived.DeepKeys4
import Derived.MapViews
import Derived.Test.YthljcnlmeefcjaaGreatYCSo
import Derived.Shelf.SlSortFuncK.WholeK
import Derived.Shelf.GgSortFunc.Tiny
import Derived.Test.YthljcnlmeefcjaaGreatProg
import Derived.Sort.LotA
import Derived.Sort.OwnSorted
import Derived.Deep.QuietTactic
import Derived.BigQuiet
import Derived.Shelf.SlSortFuncK.ComposeK
import Derived.Shelf.GgSortFunc.SmallK
import Derived.Shelf.GgSortFunc.LotD
import Derived.Sort.WalkB3
import Derived.Below
import Derived.Test.YthljcnlmeefcjaaGreatYCPl
import Derived.Test.YthljcnlmeefcjaaGreatYMPl
import Derived.RegionTactic
import Derived.BigRegion
import Derived.Test.YthljcnlmeefcjaaGreatYCSr
import Derived.Test.YthljcnlmeefcjaaGreatYCSrtB
import Derived.Sort.Walk11
import Derived.Sort.LotD1
import Derived.Sort.LotD4
import Derived.Test.YthljcnlmeefcjaaGreatYCSq
import Derived.Sort.WalkA6
import Derived.Sort.WalkB2
import Derived.Sort.WalkC4
import Derived.Deep.LoopGhost
import Derived.Shelf.SlSortFuncK.BreakPatternsK
import Derived.Sort.Walk13
import Derived.Sort.AssemblyPlain
import Derived.Test.YthljcnlmeefcjaaGreatYCMg
namespace Go.Proofs.YthljcnlmeefcjaaGreat.X
open Go.RowKit Go.WideElems Go.MapKept Go.ChangeMaps Go.ChangeShapes Go.WideShapes Go.Proofs.YthljcnlmeefcjaaGreatW.PrintWords
open Go.WideMaps (KeyLaw)
open Go.Maps (Keyed)
set_option linter.unusedVariables false
set_option linter.unusedSimpArgs false

end Go.Proofs.YthljcnlmeefcjaaGreat.X

namespace Go.Proofs.YthljcnlmeefcjaaGreat.X
open Go.RowKit Go.WideElems Go.MapKept Go.ChangeMaps Go.ChangeShapes Go.WideShapes Go.Proofs.YthljcnlmeefcjaaGreatW.PrintWords
open Go.WideMaps (KeyLaw)
open Go.Maps (Keyed)
set_option linter.unusedVariables false
set_option linter.unusedSimpArgs false

set_option maxRecDepth 100000 in
theorem lawTm : KeyLaw Tryz.prog 49 := deep_law_laid laidOut (m := 2) (by omega) (of_decide_eq_true (by kernel_rfl)) (by kernel_rfl) (by rw [Tryz.underlying49])
def litTm (a b : Int) : Lit := .string (keyBytes [.int .i64 a, .int .i64 b])
set_option maxRecDepth 100000 in
theorem keyTm {a b : Int} (ha : (Lit.int .i64 a).wf = true) (hb : (Lit.int .i64 b).wf = true) : keyOf Tryz.prog 49 (.agg #[.int .i64 a, .int .i64 b]) = some (litTm a b) := by
  have hk : Tryz.prog.keyType 49 = true := by kernel_rfl
  have hf : (Value.agg #[.int .i64 a, .int .i64 b]).formed Tryz.prog 49 = true := by simp [Value.formed, Tryz.underlying49, cellsTmI]
  obtain ⟨m, hm⟩ := typesPos
  have hl := keyLitsTm (m := m) ha hb
  rw [← hm] at hl
  unfold keyOf
  rw [Tryz.underlying49]
  simp only [hk, hf, Bool.and_self, if_true]
  rw [show (Value.agg #[.int .i64 a, .int .i64 b]).cells.toList = [.int .i64 a, .int .i64 b] from rfl, hl]
  rfl
end Go.Proofs.YthljcnlmeefcjaaGreat.X

namespace Go.Proofs.YthljcnlmeefcjaaGreat.X
open Go.RowKit Go.WideElems Go.MapKept Go.ChangeMaps Go.ChangeShapes Go.WideShapes Go.Proofs.YthljcnlmeefcjaaGreatW.PrintWords
open Go.WideMaps (KeyLaw)
open Go.Maps (Keyed)
set_option linter.unusedVariables false
set_option linter.unusedSimpArgs false

end Go.Proofs.YthljcnlmeefcjaaGreat.X

namespace Go.Proofs.YthljcnlmeefcjaaGreat.X
open Go.RowKit Go.WideElems Go.MapKept Go.ChangeMaps Go.ChangeShapes Go.WideShapes Go.Proofs.YthljcnlmeefcjaaGreatW.PrintWords
open Go.WideMaps (KeyLaw)
open Go.Maps (Keyed)
set_option linter.unusedVariables false
set_option linter.unusedSimpArgs false

end Go.Proofs.YthljcnlmeefcjaaGreat.X

