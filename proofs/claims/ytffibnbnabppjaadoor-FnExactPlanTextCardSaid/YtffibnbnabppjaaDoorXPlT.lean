/- What a plan's text is, in plain Lean: bytes. Conditions: none. -/
import Derived.Test.YtffibnbnabppjaaDoorXPnK
import Derived.Lib.Itoa
namespace Go.Proofs.YtffibnbnabppjaaDoor.X
open Go.RowKit Go.Proofs.YtffibnbnabppjaaDoorW.PrintWords
set_option linter.unusedVariables false
set_option linter.unusedSimpArgs false

/-- the word of a kind -/
def wordP (a : Int) : List UInt8 := if a = 1 then [105, 110] else if a = 2 then [101, 97, 99, 104] else if a = 3 then [98, 111, 116, 104] else if a = 4 then [108, 101, 115, 115] else if a = 5 then [106, 111, 105, 110] else [115, 117, 109]
/-- a kind's name and its number, of one digit -/
def nameP (a b : Int) : List UInt8 := wordP a ++ (if a = 1 ∨ a = 2 ∨ a = 6 then [UInt8.ofNat (48 + b.toNat)] else [])
mutual
def textP : Pn → List UInt8
  | ⟨a, b, ks⟩ => nameP a b ++ textL ks
def textL : List Pn → List UInt8
  | [] => []
  | x :: l => (32 :: textP x) ++ textL l
end
theorem textP_eq (x : Pn) : textP x = nameP x.f0 x.f1 ++ textL x.f2 := by
  obtain ⟨a, b, ks⟩ := x
  rw [textP]
theorem textL_app : ∀ a b : List Pn, textL (a ++ b) = textL a ++ textL b
  | [], b => by rw [List.nil_append, textL, List.nil_append]
  | x :: a, b => by rw [List.cons_append, textL, textL, textL_app a b, List.append_assoc]
theorem textL_take {l : List Pn} {k : Nat} {x : Pn} (h : l[k]? = some x) : textL (l.take (k + 1)) = textL (l.take k) ++ (32 :: textP x) := by
  rw [take_snoc h, textL_app, textL, textL, List.append_nil]
end Go.Proofs.YtffibnbnabppjaaDoor.X
