/- The walks of SpP and of what it calls, printed by a program of this work over the kit's own print; the functions of the X texts are taken from there. Conditions: none. -/
import Derived.Test.YthljcnlmeefcjaaProg
import Derived.Below
import Derived.Deep.Draws
import Derived.Deep.AppendLies
import Derived.Maps.AppendAt
import Derived.OwnWalk
import Derived.Laws.BytesArg
import Derived.Laws.MakeOwn
import Derived.Laws.OwnMore
import Derived.Deep.OwnRows
import Derived.Tactics
import Derived.Lib.ConvBytes
import Derived.Laws.Slices
import Derived.WalkKit
import Derived.KernelRfl
import Derived.RowKit3
import Derived.Deep.LoopGhost
import Derived.Deep.QuietTactic
import Derived.BigQuiet
import Derived.WideLaws
import Derived.Deep.DeepCutAuto
import Derived.Deep.CutBlock
import Derived.Deep.RegionHeld3
import Derived.Laws.Rows
import Derived.Lib.AppendStr
import Derived.ArgAppend
import Derived.Laws.IdiomCopy
import Derived.OrdersHeld
import Derived.Laws.BitsLemmas
import Derived.RowKit
import Derived.Test.YthljcnlmeefcjaaYCBs
import Derived.Test.YthljcnlmeefcjaaYTBs
import Derived.Test.YthljcnlmeefcjaaYTLb
import Derived.Test.YthljcnlmeefcjaaYCMg
import Derived.Test.YthljcnlmeefcjaaYTMg
import Derived.Test.YthljcnlmeefcjaaYTSb
import Derived.Test.YthljcnlmeefcjaaYTPlH
import Derived.Test.YthljcnlmeefcjaaWWords
import Derived.Test.YthljcnlmeefcjaaWLast
import Derived.Test.YthljcnlmeefcjaaWTab
import Derived.Test.YthljcnlmeefcjaaWFour
import Derived.Test.YthljcnlmeefcjaaWQPut
import Derived.Test.YthljcnlmeefcjaaWApart
import Derived.Test.YthljcnlmeefcjaaWArr
import Derived.Test.YthljcnlmeefcjaaWZeros
import Derived.Test.YthljcnlmeefcjaaWFoot
import Derived.Test.YthljcnlmeefcjaaWKept
import Derived.Test.YthljcnlmeefcjaaWShare
import Derived.Test.YthljcnlmeefcjaaWN
import Derived.Test.YthljcnlmeefcjaaWFootNe
import Derived.Test.YthljcnlmeefcjaaWAt
import Derived.Test.YthljcnlmeefcjaaWEqStruct
import Derived.Test.YthljcnlmeefcjaaWRepsOne
import Derived.Test.YthljcnlmeefcjaaWInv
import Derived.Test.YthljcnlmeefcjaaWInvWords
import Derived.Test.YthljcnlmeefcjaaWGuard
import Derived.Test.YthljcnlmeefcjaaWNEv
import Derived.Test.YthljcnlmeefcjaaWMore
import Derived.Shelf.GgSortFunc.LotD
import Derived.RegionTactic
import Derived.BigRegion
namespace Go.Proofs.Ythljcnlmeefcjaa.PSpP
open Go.RowKit Go.Proofs.YthljcnlmeefcjaaW.PrintWords Go.Proofs.YthljcnlmeefcjaaW.PrintLast Go.Proofs.YthljcnlmeefcjaaW.PrintMore
attribute [local go_sem] max2_int min2_int max_two min_two max_three min_three max_four min_four   -- for this text's walks alone
set_option linter.unusedVariables false
set_option linter.unusedSimpArgs false



def errW : Option Int → Value
  | none => .nilIface
  | some c => .iface 0 (.int .i64 c)
theorem errW_none : errW none = .nilIface := rfl
theorem errW_some (c : Int) : errW (some c) = .iface 0 (.int .i64 c) := rfl

theorem info87 : (Try.prog.info? 87).map (fun i => (i.zero, i.size, i.bytes)) = some (some (.agg #[(.int .i64 0), (.int .i64 0), (.int .i64 0), (.int .i64 0), (.int .i64 0)]), 5, 40) := by kernel_rfl
-- the values' own types
abbrev S79 := X.Tm
abbrev k79 : Kd S79 := X.kTm
abbrev S87 := X.Rw
abbrev k87 : Kd S87 := X.kRw
def rd_L3 (xs : List (List S87)) (i : Int) : (List S87) := xs.getD i.toNat ([] : List S87)
theorem at_L3 {w : World} {A : Option Addr} {n : Nat} {xs : List (List S87)} (h : Kd.C (Kd.slice 87 k87) w A n xs) (i : Int) (h0 : 0 ≤ i) (h1 : i < n) : ∃ ad A0 c0, A = some ad ∧ w.cell? (ad.add i.toNat) = some (.slice A0 (rd_L3 xs i).length c0) ∧ (rd_L3 xs i).length ≤ c0 ∧ k87.C w A0 (rd_L3 xs i).length (rd_L3 xs i) := by
  obtain ⟨ad, c, e, _, hK, hc0⟩ := Kd.C_get h ([] : List S87) i h0 h1
  have hc : ∀ j u, c[j]? = some u → w.cell? (ad.add (i.toNat * 1 + j)) = some u := hc0
  obtain ⟨A0, c0, rfl, l0, g0⟩ := hK
  exact ⟨ad, A0, c0, e, by have hq := hc 0 _ rfl; rwa [Nat.mul_one, Nat.add_zero] at hq, l0, g0⟩

abbrev S151 := X.It
abbrev k151 : Kd S151 := X.kIt
end Go.Proofs.Ythljcnlmeefcjaa.PSpP

