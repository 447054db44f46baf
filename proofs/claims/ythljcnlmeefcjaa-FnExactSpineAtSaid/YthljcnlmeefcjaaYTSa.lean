/- The walks of the functions on collections, first part. Conditions: none. -/
import Derived.Test.YthljcnlmeefcjaaYTLb
import Derived.Deep.QuietTactic
import Derived.BigQuiet
import Derived.Test.YthljcnlmeefcjaaYCMg
import Derived.Test.YthljcnlmeefcjaaYTMg
import Derived.OwnWalk
namespace Go.Proofs.Ythljcnlmeefcjaa.X
open Go.RowKit Go.Proofs.YthljcnlmeefcjaaW.PrintWords
set_option linter.unusedVariables false
set_option linter.unusedSimpArgs false

theorem blk_grown {W w1 : World} {X : Nat} {o : Obj} {r : Option Nat} (h : W.heap[X]? = some o) (hg : W.grownBy w1 r) (hne : some X ≠ r) : w1.heap[X]? = some o := (hg.block X (blk_lt h) hne).trans h
section
variable {α : Type} {d : Kd α} {e : Nat} {w w1 : World} {base X : Nat} {ok ok' : Nat → Prop} {v : Value} {xs : List α}
theorem R_apart (h : d.R e w base ok v xs) (hX : ¬ ok X) : some X ≠ v.ownBlock := fun e => hX (h.1 X e.symm)
/-- what stands apart from a slice of one's own stands behind an append to it -/
theorem blk_app {o : Obj} (h : d.R e w base ok v xs) (hg : w.grownBy w1 v.ownBlock) (hb : w.heap[X]? = some o) (hX : ¬ ok X) : w1.heap[X]? = some o := blk_grown hb hg (R_apart h hX)
end
end Go.Proofs.Ythljcnlmeefcjaa.X

namespace Go.Proofs.Ythljcnlmeefcjaa.X
open Go.RowKit Go.Proofs.YthljcnlmeefcjaaW.PrintWords
set_option linter.unusedVariables false
set_option linter.unusedSimpArgs false

theorem wf_of {a : Int} (h0 : -9223372036854775808 ≤ a) (h1 : a ≤ 9223372036854775807) : wfI a := (wfI_iff a).2 (by omega)
end Go.Proofs.Ythljcnlmeefcjaa.X

namespace Go.Proofs.Ythljcnlmeefcjaa.X
open Go.RowKit Go.Proofs.YthljcnlmeefcjaaW.PrintWords
set_option linter.unusedVariables false
set_option linter.unusedSimpArgs false

end Go.Proofs.Ythljcnlmeefcjaa.X

namespace Go.Proofs.Ythljcnlmeefcjaa.X
open Go.RowKit Go.Proofs.YthljcnlmeefcjaaW.PrintWords
set_option linter.unusedVariables false
set_option linter.unusedSimpArgs false

end Go.Proofs.Ythljcnlmeefcjaa.X

