/- Conditions: none. -/
import Derived.Test.YtkdendlgaaimbaaYCPl
import Derived.Test.YtkdendlgaaimbaaYDPl
import Derived.Test.YtkdendlgaaimbaaYDFt
import Derived.Test.YtkdendlgaaimbaaYDSb
import Derived.Test.YtkdendlgaaimbaaProg
import Derived.Below
import Derived.Deep.Draws
import Derived.Deep.AppendLies
import Derived.Maps.AppendAt
import Derived.OwnWalk
import Derived.Laws.BytesArg
import Derived.Laws.MakeOwn
import Derived.Laws.OwnMore
import Derived.Deep.OwnRows
import Derived.Tactics
import Derived.Lib.ConvBytes
import Derived.Laws.Slices
import Derived.WalkKit
import Derived.KernelRfl
import Derived.RowKit3
import Derived.Deep.LoopGhost
import Derived.Deep.QuietTactic
import Derived.BigQuiet
import Derived.WideLaws
import Derived.Deep.DeepCutAuto
import Derived.Deep.CutBlock
import Derived.Deep.RegionHeld3
import Derived.Laws.Rows
import Derived.Lib.AppendStr
import Derived.ArgAppend
import Derived.Laws.IdiomCopy
import Derived.OrdersHeld
import Derived.Laws.BitsLemmas
import Derived.RowKit
import Derived.Test.YtkdendlgaaimbaaYCBs
import Derived.Test.YtkdendlgaaimbaaYDBs
import Derived.Test.YtkdendlgaaimbaaVAWords
import Derived.Test.YtkdendlgaaimbaaVALast
import Derived.Test.YtkdendlgaaimbaaVATab
import Derived.Test.YtkdendlgaaimbaaVAApart
import Derived.Test.YtkdendlgaaimbaaVAArr
import Derived.Test.YtkdendlgaaimbaaVAFoot
import Derived.Test.YtkdendlgaaimbaaVAKept
import Derived.Test.YtkdendlgaaimbaaVAShare
import Derived.Test.YtkdendlgaaimbaaVAN
import Derived.Test.YtkdendlgaaimbaaVAEqStruct
import Derived.Test.YtkdendlgaaimbaaVARepsOne
import Derived.Test.YtkdendlgaaimbaaVAInv
import Derived.Test.YtkdendlgaaimbaaVAGuard
import Derived.Test.YtkdendlgaaimbaaVAMore
import Derived.Test.YtkdendlgaaimbaaYDLb
import Derived.Shelf.GgSortFunc.LotD
import Derived.RegionTactic
import Derived.BigRegion
namespace Go.Proofs.Ytkdendlgaaimbaa.X
open Go.RowKit
set_option linter.unusedVariables false
set_option linter.unusedSimpArgs false
def inR (a : Int) : Prop := -9223372036854775808 ≤ a ∧ a < 9223372036854775808
theorem inR_wrap (a : Int) : inR (wrap64 a) := by unfold inR wrap64; omega
theorem put_inR {r : Rw} (hr : inR r.f3) : ∀ {s : List Rw}, (∀ x ∈ s, inR x.f3) → ∀ x ∈ put r s, inR x.f3
 | [], _, x, hx => by rw [put, List.mem_singleton] at hx; rw [hx]; exact hr
 | y :: s, hs, x, hx => by
  rw [put] at hx
  split at hx
  ·rcases List.mem_cons.1 hx with rfl | hx
   ·exact hr
   ·exact hs x hx
  ·split at hx
   ·rcases List.mem_cons.1 hx with rfl | hx
    ·exact inR_wrap _
    ·exact hs x (List.mem_cons_of_mem _ hx)
   ·rcases List.mem_cons.1 hx with rfl | hx
    ·exact hs _ List.mem_cons_self
    ·exact put_inR hr (fun z hz => hs z (List.mem_cons_of_mem _ hz)) x hx
theorem putAll_inR : ∀ {l s : List Rw}, (∀ x ∈ l, inR x.f3) → (∀ x ∈ s, inR x.f3) → ∀ x ∈ putAll s l, inR x.f3
 | [], s, _, hs => hs
 | r :: l, s, hl, hs => fun x hx => putAll_inR (l := l) (s := put r s) (fun y hy => hl y (List.mem_cons_of_mem _ hy)) (put_inR (hl r List.mem_cons_self) hs) x hx
theorem sum_inR {l : List Rw} (h : ∀ x ∈ l, inR x.f3) : ∀ x ∈ sum l, inR x.f3 := fun x hx =>
 putAll_inR h (fun y hy => by cases hy) x (List.mem_filter.1 hx).1
end Go.Proofs.Ytkdendlgaaimbaa.X
namespace Go.Proofs.Ytkdendlgaaimbaa.X
open Go.RowKit
set_option linter.unusedVariables false
set_option linter.unusedSimpArgs false
end Go.Proofs.Ytkdendlgaaimbaa.X
namespace Go.Proofs.Ytkdendlgaaimbaa.X
open Go.RowKit Go.Proofs.YtkdendlgaaimbaaW.PrintWords
set_option linter.unusedVariables false
set_option linter.unusedSimpArgs false
end Go.Proofs.Ytkdendlgaaimbaa.X
