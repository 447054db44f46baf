/- Changes of sums, and rows moved to a front, told as the laws tell it. Plain lemmas. Conditions: few rows. -/
import Derived.Test.YthljcnlmeefcjaaYCPl
import Derived.Test.YthljcnlmeefcjaaYTPl
import Derived.Test.YthljcnlmeefcjaaYTSb
import Derived.Test.YthljcnlmeefcjaaYTSa
import Derived.Test.YthljcnlmeefcjaaWEqStruct
import Derived.RegionTactic
import Derived.BigRegion
import Derived.Test.YthljcnlmeefcjaaProg
import Derived.Below
import Derived.Deep.Draws
import Derived.Deep.AppendLies
import Derived.Maps.AppendAt
import Derived.OwnWalk
import Derived.Laws.BytesArg
import Derived.Laws.MakeOwn
import Derived.Laws.OwnMore
import Derived.Deep.OwnRows
import Derived.Tactics
import Derived.Lib.ConvBytes
import Derived.Laws.Slices
import Derived.WalkKit
import Derived.KernelRfl
import Derived.RowKit3
import Derived.Deep.LoopGhost
import Derived.Deep.QuietTactic
import Derived.BigQuiet
import Derived.WideLaws
import Derived.Deep.DeepCutAuto
import Derived.Deep.CutBlock
import Derived.Deep.RegionHeld3
import Derived.Laws.Rows
import Derived.Lib.AppendStr
import Derived.ArgAppend
import Derived.Laws.IdiomCopy
import Derived.OrdersHeld
import Derived.Laws.BitsLemmas
import Derived.RowKit
import Derived.Test.YthljcnlmeefcjaaYCBs
import Derived.Test.YthljcnlmeefcjaaYTBs
import Derived.Test.YthljcnlmeefcjaaWWords
import Derived.Test.YthljcnlmeefcjaaWLast
import Derived.Test.YthljcnlmeefcjaaWTab
import Derived.Test.YthljcnlmeefcjaaWFour
import Derived.Test.YthljcnlmeefcjaaWQPut
import Derived.Test.YthljcnlmeefcjaaWApart
import Derived.Test.YthljcnlmeefcjaaWArr
import Derived.Test.YthljcnlmeefcjaaWZeros
import Derived.Test.YthljcnlmeefcjaaWFoot
import Derived.Test.YthljcnlmeefcjaaWKept
import Derived.Test.YthljcnlmeefcjaaWShare
import Derived.Test.YthljcnlmeefcjaaWN
import Derived.Test.YthljcnlmeefcjaaWFootNe
import Derived.Test.YthljcnlmeefcjaaWAt
import Derived.Test.YthljcnlmeefcjaaWRepsOne
import Derived.Test.YthljcnlmeefcjaaWInv
import Derived.Test.YthljcnlmeefcjaaWInvWords
import Derived.Test.YthljcnlmeefcjaaWGuard
import Derived.Test.YthljcnlmeefcjaaWNEv
import Derived.Test.YthljcnlmeefcjaaWMore
import Derived.Test.YthljcnlmeefcjaaYTLb
import Derived.Shelf.GgSortFunc.LotD
namespace Go.Proofs.Ythljcnlmeefcjaa.X
open Go.RowKit
set_option linter.unusedVariables false
set_option linter.unusedSimpArgs false

theorem batchOk_rows {l : List Rw} (h : batchOk l = true) : rowsOk l = true := by unfold batchOk at h; rw [Bool.and_eq_true] at h; exact h.2
theorem batchAt_ok {l : List Rw} {t : Tm} (hl : rowsOk l = true) (ht : tOk t = true) : batchAt l t = present l t := by unfold batchAt; rw [hl, ht]; rfl
theorem frontOk_all : ∀ {f : List Tm}, frontOk f = true → ∀ s ∈ f, tOk s = true := fun {f} h => by
  have go : ∀ (l : List Tm) (p : Tm), frontGo p l = true → ∀ s ∈ l, tOk s = true := fun l => by
    induction l with
    | nil => intro p _ s hs; cases hs
    | cons x l ih =>
      intro p hp s hs
      simp only [frontGo, Bool.and_eq_true] at hp
      rcases List.mem_cons.1 hs with rfl | hs
      · exact hp.1.1
      · exact ih x hp.2 s hs
  cases f with
  | nil => intro s hs; cases hs
  | cons x f =>
    intro s hs
    simp only [frontOk, Bool.and_eq_true] at h
    rcases List.mem_cons.1 hs with rfl | hs
    · exact h.1
    · exact go f x h.2 s hs
end Go.Proofs.Ythljcnlmeefcjaa.X

