/- Conditions: none. -/
import Derived.Test.YtkdendlgaaimbaaGreatProg
import Derived.Below
import Derived.Deep.Draws
import Derived.Deep.AppendLies
import Derived.Maps.AppendAt
import Derived.OwnWalk
import Derived.Laws.BytesArg
import Derived.Laws.MakeOwn
import Derived.Laws.OwnMore
import Derived.Deep.OwnRows
import Derived.Tactics
import Derived.Lib.ConvBytes
import Derived.Laws.Slices
import Derived.WalkKit
import Derived.KernelRfl
import Derived.RowKit3
import Derived.Deep.LoopGhost
import Derived.Deep.QuietTactic
import Derived.BigQuiet
import Derived.WideLaws
import Derived.Deep.DeepCutAuto
import Derived.Deep.CutBlock
import Derived.Deep.RegionHeld3
import Derived.Laws.Rows
import Derived.Lib.AppendStr
import Derived.ArgAppend
import Derived.Laws.IdiomCopy
import Derived.OrdersHeld
import Derived.Laws.BitsLemmas
import Derived.RowKit
import Derived.Test.YtkdendlgaaimbaaGreatYCBs
import Derived.Test.YtkdendlgaaimbaaGreatYKBs
import Derived.Test.YtkdendlgaaimbaaGreatYKLb
import Derived.Test.YtkdendlgaaimbaaGreatYCMg
import Derived.Test.YtkdendlgaaimbaaGreatYKMg
import Derived.Test.YtkdendlgaaimbaaGreatYKMv2
import Derived.Test.YtkdendlgaaimbaaGreatYKSb
import Derived.Test.YtkdendlgaaimbaaGreatVAWords
import Derived.Test.YtkdendlgaaimbaaGreatVALast
import Derived.Test.YtkdendlgaaimbaaGreatVATab
import Derived.Test.YtkdendlgaaimbaaGreatVAApart
import Derived.Test.YtkdendlgaaimbaaGreatVAArr
import Derived.Test.YtkdendlgaaimbaaGreatVAFoot
import Derived.Test.YtkdendlgaaimbaaGreatVAKept
import Derived.Test.YtkdendlgaaimbaaGreatVAShare
import Derived.Test.YtkdendlgaaimbaaGreatVAN
import Derived.Test.YtkdendlgaaimbaaGreatVAEqStruct
import Derived.Test.YtkdendlgaaimbaaGreatVARepsOne
import Derived.Test.YtkdendlgaaimbaaGreatVAInv
import Derived.Test.YtkdendlgaaimbaaGreatVAGuard
import Derived.Test.YtkdendlgaaimbaaGreatVAMore
namespace Go.Proofs.YtkdendlgaaimbaaGreat.PSpP
open Go.RowKit Go.Proofs.YtkdendlgaaimbaaGreatW.PrintWords Go.Proofs.YtkdendlgaaimbaaGreatW.PrintLast Go.Proofs.YtkdendlgaaimbaaGreatW.PrintMore
attribute [local go_sem] max2_int min2_int max_two min_two max_three min_three max_four min_four
set_option linter.unusedVariables false
set_option linter.unusedSimpArgs false
def errW : Option Int → Value
 | none => .nilIface
 | some c => .iface 0 (.int .i64 c)
theorem errW_none : errW none = .nilIface := rfl
theorem errW_some (c : Int) : errW (some c) = .iface 0 (.int .i64 c) := rfl
theorem info27 : (Tryz.prog.info? 27).map (fun i => (i.zero, i.size, i.bytes)) = some (some (.slice none 0 0), 1, 24) := by kernel_rfl
theorem info60 : (Tryz.prog.info? 60).map (fun i => (i.zero, i.size, i.bytes)) = some (some (.agg #[(.int .i64 0), (.int .i64 0), (.int .i64 0), (.int .i64 0), (.int .i64 0)]), 5, 40) := by kernel_rfl
-- the values' own types
abbrev S38 := X.Tm
abbrev k38 : Kd S38 := X.kTm
abbrev S60 := X.Rw
abbrev k60 : Kd S60 := X.kRw
def rd_L3 (xs : List (List S60)) (i : Int) : (List S60) := xs.getD i.toNat ([] : List S60)
theorem at_L3 {w : World} {A : Option Addr} {n : Nat} {xs : List (List S60)} (h : Kd.C (Kd.slice 60 k60) w A n xs) (i : Int) (h0 : 0 ≤ i) (h1 : i < n) : ∃ ad A0 c0, A = some ad ∧ w.cell? (ad.add i.toNat) = some (.slice A0 (rd_L3 xs i).length c0) ∧ (rd_L3 xs i).length ≤ c0 ∧ k60.C w A0 (rd_L3 xs i).length (rd_L3 xs i) := by
 obtain ⟨ad, c, e, _, hK, hc0⟩ := Kd.C_get h ([] : List S60) i h0 h1
 have hc : ∀ j u, c[j]? = some u → w.cell? (ad.add (i.toNat * 1 + j)) = some u := hc0
 obtain ⟨A0, c0, rfl, l0, g0⟩ := hK
 exact ⟨ad, A0, c0, e, by have hq := hc 0 _ rfl; rwa [Nat.mul_one, Nat.add_zero] at hq, l0, g0⟩
abbrev S66 := X.It
abbrev k66 : Kd S66 := X.kIt
end Go.Proofs.YtkdendlgaaimbaaGreat.PSpP
