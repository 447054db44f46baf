/- Conditions: none. -/
import Derived.Test.YtkdendlgaaimbaaYPSpXx3
import Derived.Test.YtkdendlgaaimbaaProg
import Derived.Below
import Derived.Deep.Draws
import Derived.Deep.AppendLies
import Derived.Maps.AppendAt
import Derived.OwnWalk
import Derived.Laws.BytesArg
import Derived.Laws.MakeOwn
import Derived.Laws.OwnMore
import Derived.Deep.OwnRows
import Derived.Tactics
import Derived.Lib.ConvBytes
import Derived.Laws.Slices
import Derived.WalkKit
import Derived.KernelRfl
import Derived.RowKit3
import Derived.Deep.LoopGhost
import Derived.Deep.QuietTactic
import Derived.BigQuiet
import Derived.WideLaws
import Derived.Deep.DeepCutAuto
import Derived.Deep.CutBlock
import Derived.Deep.RegionHeld3
import Derived.Laws.Rows
import Derived.Lib.AppendStr
import Derived.ArgAppend
import Derived.Laws.IdiomCopy
import Derived.OrdersHeld
import Derived.Laws.BitsLemmas
import Derived.RowKit
import Derived.Test.YtkdendlgaaimbaaYCBs
import Derived.Test.YtkdendlgaaimbaaYPBs
import Derived.Test.YtkdendlgaaimbaaYPLb
import Derived.Test.YtkdendlgaaimbaaYCMg
import Derived.WideKeyEntry
import Derived.Maps.RangeWalk
import Derived.Maps.OwnOps
import Derived.Maps.Ext
import Derived.DeepKeys4
import Derived.MapViews
import Derived.Test.YtkdendlgaaimbaaYCSo
import Derived.Shelf.SlSortFuncK.WholeK
import Derived.Shelf.GgSortFunc.Tiny
import Derived.Sort.LotA
import Derived.Sort.OwnSorted
import Derived.Shelf.SlSortFuncK.ComposeK
import Derived.Shelf.GgSortFunc.SmallK
import Derived.Shelf.GgSortFunc.LotD
import Derived.Sort.WalkB3
import Derived.Test.YtkdendlgaaimbaaYCPl
import Derived.Test.YtkdendlgaaimbaaYPPl
import Derived.RegionTactic
import Derived.BigRegion
import Derived.Test.YtkdendlgaaimbaaYCSr
import Derived.Test.YtkdendlgaaimbaaYCSrtB
import Derived.Sort.Walk11
import Derived.Sort.LotD1
import Derived.Sort.LotD4
import Derived.Test.YtkdendlgaaimbaaYCSq
import Derived.Sort.WalkA6
import Derived.Sort.WalkB2
import Derived.Sort.WalkC4
import Derived.Shelf.SlSortFuncK.BreakPatternsK
import Derived.Sort.Walk13
import Derived.Sort.AssemblyPlain
import Derived.Test.YtkdendlgaaimbaaYPSb
import Derived.Test.YtkdendlgaaimbaaYPPlH
import Derived.Test.YtkdendlgaaimbaaVAWords
import Derived.Test.YtkdendlgaaimbaaVALast
import Derived.Test.YtkdendlgaaimbaaVATab
import Derived.Test.YtkdendlgaaimbaaVAApart
import Derived.Test.YtkdendlgaaimbaaVAArr
import Derived.Test.YtkdendlgaaimbaaVAFoot
import Derived.Test.YtkdendlgaaimbaaVAKept
import Derived.Test.YtkdendlgaaimbaaVAShare
import Derived.Test.YtkdendlgaaimbaaVAN
import Derived.Test.YtkdendlgaaimbaaVAEqStruct
import Derived.Test.YtkdendlgaaimbaaVARepsOne
import Derived.Test.YtkdendlgaaimbaaVAInv
import Derived.Test.YtkdendlgaaimbaaVAGuard
import Derived.Test.YtkdendlgaaimbaaVAMore
namespace Go.Proofs.Ytkdendlgaaimbaa.X
open Go.RowKit Go.Proofs.Ytkdendlgaaimbaa.PSpX Go.Proofs.YtkdendlgaaimbaaW.PrintWords
set_option linter.unusedVariables false
set_option linter.unusedSimpArgs false
theorem eqItem_e (a b c : Int) : laws_eqItem.f a b c a b c = some true := by simp [laws_eqItem.f]
theorem eqItemS_l (x : List It) (hx : x.length ≤ 1152921504606846976) : ∀ n i : Nat, i + n = x.length → Ev (fun k => laws_eqItemS.l0 k x x i) true := by
 intro n
 induction n with
 | zero =>
  intro i hi
  refine Ev.succ (Ev.all fun k => ?_)
  simp only [laws_eqItemS.l0]
  rw [if_neg (by omega)]
 | succ n ih =>
  intro i hi
  refine Ev.succ ?_
  simp only [laws_eqItemS.l0, eqItem_e, Option.bind_some, if_true]
  refine Ev.of (ih (i + 1) (by omega)) (fun k => ?_)
  rw [if_pos (by omega), if_pos (by omega), wnext (by omega) hx]
  simp only [if_pos (show (i : Int) < (x.length : Int) by omega)]
theorem eqItemS_e (x : List It) (hx : x.length ≤ 1152921504606846976) : Ev (fun k => laws_eqItemS.f k x x) true := by
 simp only [laws_eqItemS.f, if_true]
 exact eqItemS_l x hx x.length 0 (by omega)
theorem rdIt_at (d x : List It) (a : It) : rd_T118 (d ++ a :: x) (d.length : Int) = a := by simp [rd_T118, List.getD]
def markIt (k : Int) : Nat → List It
 | 0 => []
 | n + 1 => ⟨k, k + 1, k + 2⟩ :: markIt (k + 3) n
theorem heldItemS_l : ∀ (n : Nat) (d : List It) (k0 : Int), 0 ≤ k0 → k0 + 3 * n ≤ 9000000000000000000 → (d.length : Int) + n ≤ 1152921504606846976 → Ev (fun k => laws_heldItemS.l0 k (d ++ markIt k0 n) k0 d.length) (k0 + 3 * n) := by
 intro n
 induction n with
 | zero =>
  intro d k0 h0 h1 h2
  refine Ev.succ (Ev.all fun k => ?_)
  simp only [laws_heldItemS.l0]
  rw [if_neg (by simp [markIt])]
  simp
 | succ n ih =>
  intro d k0 h0 h1 h2
  have H := ih (d ++ [⟨k0, k0 + 1, k0 + 2⟩]) (k0 + 3) (by omega) (by omega) (by simp; omega)
  refine Ev.succ ?_
  have e1 : wrap64 (k0 + 1) = k0 + 1 := wsmall (by omega) (by omega)
  have e2 : wrap64 (k0 + 1 + 1) = k0 + 2 := by rw [wsmall (by omega) (by omega)]; omega
  have e3 : wrap64 (k0 + 2 + 1) = k0 + 3 := by rw [wsmall (by omega) (by omega)]; omega
  have e4 : wrap64 ((d.length : Int) + 1) = ((d ++ [(⟨k0, k0 + 1, k0 + 2⟩ : It)]).length : Int) := by rw [wsmall (by omega) (by omega)]; simp
  have e5 : k0 + 3 * ((n + 1 : Nat) : Int) = k0 + 3 + 3 * (n : Int) := by omega
  rw [e5]
  refine Ev.of (f := fun k => laws_heldItemS.l0 k (d ++ [(⟨k0, k0 + 1, k0 + 2⟩ : It)] ++ markIt (k0 + 3) n) (k0 + 3) ((d ++ [(⟨k0, k0 + 1, k0 + 2⟩ : It)]).length : Int)) H (fun k => ?_)
  simp only [laws_heldItemS.l0, markIt, rdIt_at, e1, e2, e3, e4, if_true]
  rw [if_pos (by simp; omega), if_pos (by omega)]
  congr 1
  simp
theorem heldItemS_e (n : Nat) (hx : n ≤ 1048576) : Ev (fun k => laws_heldItemS.f k (markIt 1 n) 1) (1 + 3 * n) := by
 have := heldItemS_l n [] 1 (by omega) (by omega) (by simp; omega)
 simpa [laws_heldItemS.f] using this
end Go.Proofs.Ytkdendlgaaimbaa.X
