/- The walks of the functions on collections, first part. Conditions: none. -/
import Derived.Test.YthljcnlmeefcjaaYCBs
import Derived.Test.YthljcnlmeefcjaaYVBs
import Derived.Test.YthljcnlmeefcjaaYCPl
import Derived.Test.YthljcnlmeefcjaaYVPl
import Derived.Deep.RegionHeld3
import Derived.BigQuiet
import Derived.BigRegion
import Derived.Laws.BitsLemmas
import Derived.Deep.QuietTactic
import Derived.Test.YthljcnlmeefcjaaYCMg
import Derived.WideKeyEntry
import Derived.Maps.RangeWalk
import Derived.Maps.OwnOps
import Derived.Maps.Ext
import Derived.DeepKeys4
import Derived.MapViews
import Derived.Test.YthljcnlmeefcjaaYCSo
import Derived.Shelf.SlSortFuncK.WholeK
import Derived.Shelf.GgSortFunc.Tiny
import Derived.Test.YthljcnlmeefcjaaProg
import Derived.Sort.LotA
import Derived.Sort.OwnSorted
import Derived.Shelf.SlSortFuncK.ComposeK
import Derived.Shelf.GgSortFunc.SmallK
import Derived.Shelf.GgSortFunc.LotD
import Derived.Sort.WalkB3
import Derived.Below
import Derived.RegionTactic
import Derived.Test.YthljcnlmeefcjaaYCSr
import Derived.Test.YthljcnlmeefcjaaYCSrtB
import Derived.Sort.Walk11
import Derived.Sort.LotD1
import Derived.Sort.LotD4
import Derived.Test.YthljcnlmeefcjaaYCSq
import Derived.Sort.WalkA6
import Derived.Sort.WalkB2
import Derived.Sort.WalkC4
import Derived.Deep.LoopGhost
import Derived.Shelf.SlSortFuncK.BreakPatternsK
import Derived.Sort.Walk13
import Derived.Sort.AssemblyPlain
import Derived.OwnWalk
namespace Go.Proofs.Ythljcnlmeefcjaa.X
open Go.RowKit Go.Proofs.YthljcnlmeefcjaaW.PrintWords
set_option linter.unusedVariables false
set_option linter.unusedSimpArgs false

theorem blk_grown {W w1 : World} {X : Nat} {o : Obj} {r : Option Nat} (h : W.heap[X]? = some o) (hg : W.grownBy w1 r) (hne : some X ≠ r) : w1.heap[X]? = some o := (hg.block X (blk_lt h) hne).trans h
section
variable {α : Type} {d : Kd α} {e : Nat} {w w1 : World} {base X : Nat} {ok ok' : Nat → Prop} {v : Value} {xs : List α}
end
end Go.Proofs.Ythljcnlmeefcjaa.X

namespace Go.Proofs.Ythljcnlmeefcjaa.X
open Go.RowKit Go.Proofs.YthljcnlmeefcjaaW.PrintWords
set_option linter.unusedVariables false
set_option linter.unusedSimpArgs false

end Go.Proofs.Ythljcnlmeefcjaa.X

namespace Go.Proofs.Ythljcnlmeefcjaa.X
open Go.RowKit Go.Proofs.YthljcnlmeefcjaaW.PrintWords
set_option linter.unusedVariables false
set_option linter.unusedSimpArgs false

end Go.Proofs.Ythljcnlmeefcjaa.X

namespace Go.Proofs.Ythljcnlmeefcjaa.X
open Go.RowKit Go.Proofs.YthljcnlmeefcjaaW.PrintWords
set_option linter.unusedVariables false
set_option linter.unusedSimpArgs false

end Go.Proofs.Ythljcnlmeefcjaa.X

