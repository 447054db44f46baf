/- What holds of the whole program: the parts of a row's joined facts, each shown once. Conditions: none. -/
import Derived.Test.YtkdendlgaaimbaaGreatProg
import Derived.Test.YtkdendlgaaimbaaGreatChecked
import Derived.WalkKit
import Derived.JoinedOf
namespace Go.Proofs.YtkdendlgaaimbaaGreat.X.Jn
open Go
set_option maxRecDepth 100000

def headN : List Nat := [104, 97, 114, 110, 101, 115, 115, 32, 55, 54, 52, 49, 98, 48, 55, 99, 48, 51, 97, 101, 51, 53, 55, 50, 56, 49, 48, 52, 99, 101, 57, 57, 52, 99, 51, 49, 49, 55, 49, 52, 98, 57, 102, 101, 56, 49, 54, 98, 54, 48, 53, 51, 97, 53, 102, 53, 54, 52, 56, 50, 50, 98, 102, 57, 55, 56, 56, 102, 55, 99, 101, 100, 32, 99, 117, 116, 32]
def tailN : List Nat := [97, 116, 32, 108, 111, 111, 112, 46, 101, 120, 97, 109, 112, 108, 101, 47, 116, 105, 100, 101, 108, 105, 110, 101, 47, 108, 97, 119, 115, 46, 70, 110, 83, 112, 105, 110, 101, 73, 110, 32, 108, 111, 111, 112, 46, 101, 120, 97, 109, 112, 108, 101, 47, 116, 105, 100, 101, 108, 105, 110, 101, 47, 108, 97, 119, 115, 46, 70, 110, 83, 112, 105, 110, 101, 68, 111, 119, 110, 32, 108, 111, 111, 112, 46, 101, 120, 97, 109, 112, 108, 101, 47, 116, 105, 100, 101, 108, 105, 110, 101, 47, 108, 97, 119, 115, 46, 70, 110, 83, 112, 105, 110, 101, 74, 111, 105, 110]
def wordN : List (List Nat) := [[104, 97, 114, 110, 101, 115, 115], [55, 54, 52, 49, 98, 48, 55, 99, 48, 51, 97, 101, 51, 53, 55, 50, 56, 49, 48, 52, 99, 101, 57, 57, 52, 99, 51, 49, 49, 55, 49, 52, 98, 57, 102, 101, 56, 49, 54, 98, 54, 48, 53, 51, 97, 53, 102, 53, 54, 52, 56, 50, 50, 98, 102, 57, 55, 56, 56, 102, 55, 99, 101, 100], [99, 117, 116]]
theorem init_list : Tryz.prog.initOrder = String.ofList ((headN ++ tailN).map Char.ofNat) := by kernel_rfl
theorem words_head (X : List Char) : wordsSigns (headN.map Char.ofNat ++ X) = wordN.map (fun l => l.map Char.ofNat) ++ wordsSigns X := by kernel_rfl
theorem words_eq : wordsSigns Tryz.prog.initOrder.toList = wordN.map (fun l => l.map Char.ofNat) ++ wordsSigns (tailN.map Char.ofNat) := by
  rw [init_list, String.toList_ofList, List.map_append]; exact words_head _
theorem laysLater_ : Tryz.prog.laysLater = false := by kernel_rfl
theorem bearsReflect_ : Tryz.prog.bearsReflect = false := by kernel_rfl
theorem doorRows_ : Tryz.prog.doorRows = [] := by kernel_rfl
theorem behind_ (X : List (List Char)) : behindMainWord (wordN.map (fun l => l.map Char.ofNat) ++ X) = "cut".toList :: X := by kernel_rfl
theorem strip_ (X : List (List Char)) : stripLifts liftWords ("cut".toList :: X) = ([], "cut".toList :: X) := by kernel_rfl
theorem fits_ : Tryz.prog.doorFits [] = true := by
  unfold Program.doorFits
  rw [doorRows_]
  rfl
theorem behind_eq : behindMainWord (wordsSigns Tryz.prog.initOrder.toList) = "cut".toList :: wordsSigns (tailN.map Char.ofNat) := by rw [words_eq, behind_]
theorem mayEnter_of (P : Program) (X : List (List Char)) (h : behindMainWord (wordsSigns P.initOrder.toList) = "cut".toList :: X) (h1 : P.laysLater = false) (h2 : P.bearsReflect = false) (h3 : P.doorFits [] = true) : P.mayEnter = true := by
  unfold Program.mayEnter
  rw [h]
  simp only
  rw [strip_, h1, h2, h3]
  simp
theorem liftsFinal_of (P : Program) (X : List (List Char)) (h : behindMainWord (wordsSigns P.initOrder.toList) = "cut".toList :: X) : P.liftsFinal = false := by
  have hh : P.headLifts = [] := by
    unfold Program.headLifts
    rw [h, strip_]
    simp
  unfold Program.liftsFinal
  rw [h, hh]
  simp
theorem make_of (P : Program) (X : List (List Char)) (h : behindMainWord (wordsSigns P.initOrder.toList) = "cut".toList :: X) : P.make = some .cut := by
  unfold Program.make
  rw [h]
  rfl
theorem make_ : Tryz.prog.make = some .cut := make_of _ _ behind_eq
theorem mayEnter_ : Tryz.prog.mayEnter = true := mayEnter_of _ _ behind_eq laysLater_ bearsReflect_ fits_
theorem liftsFinal_ : Tryz.prog.liftsFinal = false := liftsFinal_of _ _ behind_eq
theorem laidOut_ : laidOutB Tryz.prog = true := by kernel_rfl
theorem mapsRowed_ : mapsRowed Tryz.prog = true := by kernel_rfl
theorem stopsHeard_ : Tryz.prog.stopsHeard = true := by kernel_rfl
end Go.Proofs.YtkdendlgaaimbaaGreat.X.Jn
