/- Drawn rows: each in bounds, so many at most. Conditions: a reader of at most 2000 bytes, few draws so far. -/
import Derived.Test.YthljcnlmeefcjaaYEDrawx2
import Derived.Test.YthljcnlmeefcjaaYELb
import Derived.Shelf.GgSortFunc.LotD
import Derived.Deep.DeepCutAuto
namespace Go.Proofs.Ythljcnlmeefcjaa.X
open Go.RowKit Go.Proofs.YthljcnlmeefcjaaW.PrintWords
set_option linter.unusedVariables false
set_option linter.unusedSimpArgs false

theorem R_alloc {α : Type} {d : Kd α} {e base : Nat} {ok : Nat → Prop} {v : Value} {xs : List α} {W : World} (h : d.R e W base ok v xs) (o : Obj) : d.R e (W.alloc o) base ok v xs := Kd.R_below h (below_alloc (Below.refl _ _) _)
theorem R_pick {α : Type} {d : Kd α} {e base : Nat} {ok : Nat → Prop} {v : Value} {xs : List α} {W W' : World} {rb : Nat} (h : d.R e W base ok v xs) (hg : W.grownBy W' (some rb)) (hok : ∀ q, ok q → q ≠ rb) : d.R e W' base ok v xs := Kd.R_grown h hg (fun q hq e => hok q hq (Option.some.inj e))
end Go.Proofs.Ythljcnlmeefcjaa.X

