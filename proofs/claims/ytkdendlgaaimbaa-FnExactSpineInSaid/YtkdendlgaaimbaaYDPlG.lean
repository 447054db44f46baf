/- Conditions: none. -/
import Derived.Test.YtkdendlgaaimbaaYDFs
import Derived.Test.YtkdendlgaaimbaaYDSb
import Derived.Test.YtkdendlgaaimbaaYCPl
import Derived.Test.YtkdendlgaaimbaaYDPl
import Derived.Test.YtkdendlgaaimbaaProg
import Derived.Below
import Derived.Deep.Draws
import Derived.Deep.AppendLies
import Derived.Maps.AppendAt
import Derived.OwnWalk
import Derived.Laws.BytesArg
import Derived.Laws.MakeOwn
import Derived.Laws.OwnMore
import Derived.Deep.OwnRows
import Derived.Tactics
import Derived.Lib.ConvBytes
import Derived.Laws.Slices
import Derived.WalkKit
import Derived.KernelRfl
import Derived.RowKit3
import Derived.Deep.LoopGhost
import Derived.Deep.QuietTactic
import Derived.BigQuiet
import Derived.WideLaws
import Derived.Deep.DeepCutAuto
import Derived.Deep.CutBlock
import Derived.Deep.RegionHeld3
import Derived.Laws.Rows
import Derived.Lib.AppendStr
import Derived.ArgAppend
import Derived.Laws.IdiomCopy
import Derived.OrdersHeld
import Derived.Laws.BitsLemmas
import Derived.RowKit
import Derived.Test.YtkdendlgaaimbaaYCBs
import Derived.Test.YtkdendlgaaimbaaYDBs
import Derived.Test.YtkdendlgaaimbaaVAWords
import Derived.Test.YtkdendlgaaimbaaVALast
import Derived.Test.YtkdendlgaaimbaaVATab
import Derived.Test.YtkdendlgaaimbaaVAApart
import Derived.Test.YtkdendlgaaimbaaVAArr
import Derived.Test.YtkdendlgaaimbaaVAFoot
import Derived.Test.YtkdendlgaaimbaaVAKept
import Derived.Test.YtkdendlgaaimbaaVAShare
import Derived.Test.YtkdendlgaaimbaaVAN
import Derived.Test.YtkdendlgaaimbaaVAEqStruct
import Derived.Test.YtkdendlgaaimbaaVARepsOne
import Derived.Test.YtkdendlgaaimbaaVAInv
import Derived.Test.YtkdendlgaaimbaaVAGuard
import Derived.Test.YtkdendlgaaimbaaVAMore
import Derived.Test.YtkdendlgaaimbaaYDLb
import Derived.Shelf.GgSortFunc.LotD
import Derived.RegionTactic
import Derived.BigRegion
namespace Go.Proofs.Ytkdendlgaaimbaa.X
open Go.RowKit
set_option linter.unusedVariables false
set_option linter.unusedSimpArgs false
theorem below_trans {s t u : Tm} (h : below s t = true) (g : below t u = true) : below s u = true := by
 simp only [below, Bool.and_eq_true, decide_eq_true_eq] at h g ⊢; omega
theorem below_refl (t : Tm) : below t t = true := by simp [below]
theorem tmax_le (a b : Int) : a ≤ tmax a b ∧ b ≤ tmax a b := by unfold tmax; split <;> omega
theorem below_joinL {c d : Tm} (hc : tOk c = true) (hd : tOk d = true) : below c (tJoin c d) = true ∧ below d (tJoin c d) = true := by
 have e : tJoin c d = ⟨tmax c.f0 d.f0, tmax c.f1 d.f1⟩ := by unfold tJoin; rw [hc, hd]; rfl
 rw [e]
 simp only [below, Bool.and_eq_true, decide_eq_true_eq]
 exact ⟨⟨(tmax_le _ _).1, (tmax_le _ _).1⟩, ⟨(tmax_le _ _).2, (tmax_le _ _).2⟩⟩
end Go.Proofs.Ytkdendlgaaimbaa.X
