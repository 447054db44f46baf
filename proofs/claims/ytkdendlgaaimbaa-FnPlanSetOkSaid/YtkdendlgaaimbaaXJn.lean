/- What holds of the whole program: the parts of a row's joined facts, each shown once. Conditions: none. -/
import Derived.Test.YtkdendlgaaimbaaProg
import Derived.Test.YtkdendlgaaimbaaChecked
import Derived.WalkKit
import Derived.JoinedOf
namespace Go.Proofs.Ytkdendlgaaimbaa.X.Jn
open Go
set_option maxRecDepth 100000

def headN : List Nat := [104, 97, 114, 110, 101, 115, 115, 32, 50, 55, 57, 98, 56, 52, 51, 57, 102, 100, 97, 101, 49, 48, 102, 51, 53, 99, 54, 49, 51, 48, 101, 52, 101, 98, 102, 97, 97, 102, 100, 54, 98, 99, 51, 56, 102, 53, 55, 53, 97, 102, 48, 97, 49, 54, 48, 102, 57, 99, 51, 50, 56, 53, 97, 49, 52, 54, 100, 54, 53, 52, 57, 98, 32, 99, 117, 116, 32]
def tailN : List Nat := [97, 116, 32, 108, 111, 111, 112, 46, 101, 120, 97, 109, 112, 108, 101, 47, 116, 105, 100, 101, 108, 105, 110, 101, 47, 108, 97, 119, 115, 46, 70, 110, 83, 112, 105, 110, 101, 79, 107, 32, 108, 111, 111, 112, 46, 101, 120, 97, 109, 112, 108, 101, 47, 116, 105, 100, 101, 108, 105, 110, 101, 47, 108, 97, 119, 115, 46, 70, 110, 83, 112, 105, 110, 101, 83, 105, 110, 99, 101, 84, 119, 105, 99, 101, 32, 108, 111, 111, 112, 46, 101, 120, 97, 109, 112, 108, 101, 47, 116, 105, 100, 101, 108, 105, 110, 101, 47, 108, 97, 119, 115, 46, 70, 110, 83, 112, 105, 110, 101, 78, 111, 116, 32, 108, 111, 111, 112, 46, 101, 120, 97, 109, 112, 108, 101, 47, 116, 105, 100, 101, 108, 105, 110, 101, 47, 108, 97, 119, 115, 46, 70, 110, 83, 112, 105, 110, 101, 65, 108, 108, 32, 108, 111, 111, 112, 46, 101, 120, 97, 109, 112, 108, 101, 47, 116, 105, 100, 101, 108, 105, 110, 101, 47, 108, 97, 119, 115, 46, 70, 110, 83, 112, 105, 110, 101, 76, 101, 115, 115, 32, 108, 111, 111, 112, 46, 101, 120, 97, 109, 112, 108, 101, 47, 116, 105, 100, 101, 108, 105, 110, 101, 47, 108, 97, 119, 115, 46, 70, 110, 80, 108, 97, 110, 83, 101, 116, 79, 107, 32, 108, 111, 111, 112, 46, 101, 120, 97, 109, 112, 108, 101, 47, 116, 105, 100, 101, 108, 105, 110, 101, 47, 108, 97, 119, 115, 46, 70, 110, 83, 112, 105, 110, 101, 83, 105, 110, 99, 101, 32, 108, 111, 111, 112, 46, 101, 120, 97, 109, 112, 108, 101, 47, 116, 105, 100, 101, 108, 105, 110, 101, 47, 108, 97, 119, 115, 46, 70, 110, 83, 112, 105, 110, 101, 70, 101, 119, 32, 108, 111, 111, 112, 46, 101, 120, 97, 109, 112, 108, 101, 47, 116, 105, 100, 101, 108, 105, 110, 101, 47, 108, 97, 119, 115, 46, 70, 110, 69, 120, 97, 99, 116, 83, 112, 105, 110, 101, 73, 110, 32, 108, 111, 111, 112, 46, 101, 120, 97, 109, 112, 108, 101, 47, 116, 105, 100, 101, 108, 105, 110, 101, 47, 108, 97, 119, 115, 46, 70, 110, 83, 112, 105, 110, 101, 69, 109, 112, 116, 121, 32, 108, 111, 111, 112, 46, 101, 120, 97, 109, 112, 108, 101, 47, 116, 105, 100, 101, 108, 105, 110, 101, 47, 108, 97, 119, 115, 46, 70, 110, 69, 120, 97, 99, 116, 80, 108, 97, 110, 83, 101, 116]
def wordN : List (List Nat) := [[104, 97, 114, 110, 101, 115, 115], [50, 55, 57, 98, 56, 52, 51, 57, 102, 100, 97, 101, 49, 48, 102, 51, 53, 99, 54, 49, 51, 48, 101, 52, 101, 98, 102, 97, 97, 102, 100, 54, 98, 99, 51, 56, 102, 53, 55, 53, 97, 102, 48, 97, 49, 54, 48, 102, 57, 99, 51, 50, 56, 53, 97, 49, 52, 54, 100, 54, 53, 52, 57, 98], [99, 117, 116]]
theorem init_list : Try.prog.initOrder = String.ofList ((headN ++ tailN).map Char.ofNat) := by kernel_rfl
theorem words_head (X : List Char) : wordsSigns (headN.map Char.ofNat ++ X) = wordN.map (fun l => l.map Char.ofNat) ++ wordsSigns X := by kernel_rfl
theorem words_eq : wordsSigns Try.prog.initOrder.toList = wordN.map (fun l => l.map Char.ofNat) ++ wordsSigns (tailN.map Char.ofNat) := by
  rw [init_list, String.toList_ofList, List.map_append]; exact words_head _
theorem laysLater_ : Try.prog.laysLater = false := by kernel_rfl
theorem bearsReflect_ : Try.prog.bearsReflect = false := by kernel_rfl
theorem doorRows_ : Try.prog.doorRows = [] := by kernel_rfl
theorem behind_ (X : List (List Char)) : behindMainWord (wordN.map (fun l => l.map Char.ofNat) ++ X) = "cut".toList :: X := by kernel_rfl
theorem strip_ (X : List (List Char)) : stripLifts liftWords ("cut".toList :: X) = ([], "cut".toList :: X) := by kernel_rfl
theorem fits_ : Try.prog.doorFits [] = true := by
  unfold Program.doorFits
  rw [doorRows_]
  rfl
theorem behind_eq : behindMainWord (wordsSigns Try.prog.initOrder.toList) = "cut".toList :: wordsSigns (tailN.map Char.ofNat) := by rw [words_eq, behind_]
theorem mayEnter_of (P : Program) (X : List (List Char)) (h : behindMainWord (wordsSigns P.initOrder.toList) = "cut".toList :: X) (h1 : P.laysLater = false) (h2 : P.bearsReflect = false) (h3 : P.doorFits [] = true) : P.mayEnter = true := by
  unfold Program.mayEnter
  rw [h]
  simp only
  rw [strip_, h1, h2, h3]
  simp
theorem liftsFinal_of (P : Program) (X : List (List Char)) (h : behindMainWord (wordsSigns P.initOrder.toList) = "cut".toList :: X) : P.liftsFinal = false := by
  have hh : P.headLifts = [] := by
    unfold Program.headLifts
    rw [h, strip_]
    simp
  unfold Program.liftsFinal
  rw [h, hh]
  simp
theorem make_of (P : Program) (X : List (List Char)) (h : behindMainWord (wordsSigns P.initOrder.toList) = "cut".toList :: X) : P.make = some .cut := by
  unfold Program.make
  rw [h]
  rfl
theorem make_ : Try.prog.make = some .cut := make_of _ _ behind_eq
theorem mayEnter_ : Try.prog.mayEnter = true := mayEnter_of _ _ behind_eq laysLater_ bearsReflect_ fits_
theorem liftsFinal_ : Try.prog.liftsFinal = false := liftsFinal_of _ _ behind_eq
theorem laidOut_ : laidOutB Try.prog = true := by kernel_rfl
theorem mapsRowed_ : mapsRowed Try.prog = true := by kernel_rfl
theorem stopsHeard_ : Try.prog.stopsHeard = true := by kernel_rfl
end Go.Proofs.Ytkdendlgaaimbaa.X.Jn
