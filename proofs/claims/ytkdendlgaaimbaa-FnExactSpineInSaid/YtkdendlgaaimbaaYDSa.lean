/- Conditions: none. -/
import Derived.Test.YtkdendlgaaimbaaYDLb
import Derived.Deep.QuietTactic
import Derived.BigQuiet
import Derived.Test.YtkdendlgaaimbaaYCMg
import Derived.Test.YtkdendlgaaimbaaYCBs
import Derived.Test.YtkdendlgaaimbaaYDBs
import Derived.WideKeyEntry
import Derived.Maps.RangeWalk
import Derived.Maps.OwnOps
import Derived.Maps.Ext
import Derived.DeepKeys4
import Derived.MapViews
import Derived.Test.YtkdendlgaaimbaaYCSo
import Derived.Shelf.SlSortFuncK.WholeK
import Derived.Shelf.GgSortFunc.Tiny
import Derived.Test.YtkdendlgaaimbaaProg
import Derived.Sort.LotA
import Derived.Sort.OwnSorted
import Derived.Shelf.SlSortFuncK.ComposeK
import Derived.Shelf.GgSortFunc.SmallK
import Derived.Shelf.GgSortFunc.LotD
import Derived.Sort.WalkB3
import Derived.Below
import Derived.Test.YtkdendlgaaimbaaYCPl
import Derived.Test.YtkdendlgaaimbaaYDPl
import Derived.RegionTactic
import Derived.BigRegion
import Derived.Test.YtkdendlgaaimbaaYCSr
import Derived.Test.YtkdendlgaaimbaaYCSrtB
import Derived.Sort.Walk11
import Derived.Sort.LotD1
import Derived.Sort.LotD4
import Derived.Test.YtkdendlgaaimbaaYCSq
import Derived.Sort.WalkA6
import Derived.Sort.WalkB2
import Derived.Sort.WalkC4
import Derived.Deep.LoopGhost
import Derived.Shelf.SlSortFuncK.BreakPatternsK
import Derived.Sort.Walk13
import Derived.Sort.AssemblyPlain
import Derived.OwnWalk
namespace Go.Proofs.Ytkdendlgaaimbaa.X
open Go.RowKit Go.Proofs.YtkdendlgaaimbaaW.PrintWords
set_option linter.unusedVariables false
set_option linter.unusedSimpArgs false
theorem blk_grown {W w1 : World} {X : Nat} {o : Obj} {r : Option Nat} (h : W.heap[X]? = some o) (hg : W.grownBy w1 r) (hne : some X ≠ r) : w1.heap[X]? = some o := (hg.block X (blk_lt h) hne).trans h
section
variable {α : Type} {d : Kd α} {e : Nat} {w w1 : World} {base X : Nat} {ok ok' : Nat → Prop} {v : Value} {xs : List α}
end
theorem add_blk (ad : Addr) (n : Nat) : (ad.add n).block = ad.block := by unfold Addr.add; first | rfl | (split <;> rfl) | (cases ad; simp)
theorem tmLt {w : World} {ad : Addr} {xs : List Tm} (h : kTm.C w (some ad) xs.length xs) {k : Nat} (hk : k < xs.length) : ad.block < w.heap.size := by
 obtain ⟨ad', x, e, HX, h0, _⟩ := rdTm h (Below.refl _ _) hk
 cases e
 exact add_blk ad (k * 2) ▸ World.block_lt_of_cell? w (ad.add (k * 2)) h0
end Go.Proofs.Ytkdendlgaaimbaa.X
namespace Go.Proofs.Ytkdendlgaaimbaa.X
open Go.RowKit Go.Proofs.YtkdendlgaaimbaaW.PrintWords
set_option linter.unusedVariables false
set_option linter.unusedSimpArgs false
theorem wf_of {a : Int} (h0 : -9223372036854775808 ≤ a) (h1 : a ≤ 9223372036854775807) : wfI a := (wfI_iff a).2 (by omega)
end Go.Proofs.Ytkdendlgaaimbaa.X
namespace Go.Proofs.Ytkdendlgaaimbaa.X
open Go.RowKit Go.Proofs.YtkdendlgaaimbaaW.PrintWords
set_option linter.unusedVariables false
set_option linter.unusedSimpArgs false
end Go.Proofs.Ytkdendlgaaimbaa.X
namespace Go.Proofs.Ytkdendlgaaimbaa.X
open Go.RowKit Go.Proofs.YtkdendlgaaimbaaW.PrintWords
set_option linter.unusedVariables false
set_option linter.unusedSimpArgs false
end Go.Proofs.Ytkdendlgaaimbaa.X
