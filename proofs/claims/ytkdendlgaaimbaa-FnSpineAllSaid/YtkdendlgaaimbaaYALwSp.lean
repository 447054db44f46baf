/- Conditions: none. -/
import Derived.Test.YtkdendlgaaimbaaYALw
import Derived.Test.YtkdendlgaaimbaaYAFt
import Derived.Test.YtkdendlgaaimbaaYASpI
import Derived.Test.YtkdendlgaaimbaaYASpJ
import Derived.Test.YtkdendlgaaimbaaYASb
import Derived.Test.YtkdendlgaaimbaaYAPlH
import Derived.Test.YtkdendlgaaimbaaYADr
import Derived.RegionTactic
import Derived.BigRegion
namespace Go.Proofs.Ytkdendlgaaimbaa.X
open Go.RowKit Go.Proofs.YtkdendlgaaimbaaW.PrintWords Go.Proofs.YtkdendlgaaimbaaW.PrintLast
set_option linter.unusedVariables false
set_option linter.unusedSimpArgs false
theorem lwRowsT (v v2 : Value) (l : List Rw) (w : World) (h : Sl kRw w v l) (h2 : Sl kRw w v2 l) : Calls Try.prog 33 #[v, v2] w (RetV w (.bool true)) := by
 have := laws_lwRows v v2 l l w h h2
 rwa [decide_eq_true rfl] at this
theorem lwItemsT (v v2 : Value) (l : List It) (w : World) (h : Sl kIt w v l) (h2 : Sl kIt w v2 l) : Calls Try.prog 27 #[v, v2] w (RetV w (.bool true)) := by
 have := laws_lwItems v v2 l l w h h2
 rwa [decide_eq_true rfl] at this
theorem spOkS (u v : Value) (ls : List (List Rw)) (f : List Tm) (w : World) {b : Bool} (h : SpS w u v ls f) (hok : spineOk ls f = b) : Calls Try.prog 28 #[.agg #[u, v]] w (RetV w (.bool b)) := by
 have := spec_SpineOk u v ls f w h.1 h.2
 rwa [hok] at this
theorem SpS.form {w : World} {u v : Value} {ls : List (List Rw)} {f : List Tm} (h : SpS w u v ls f) : ∃ A c A' c', u = .slice A ls.length c ∧ v = .slice A' f.length c' := by
 obtain ⟨⟨A, c, e, _, _⟩, A', c', e', _, _⟩ := h
 exact ⟨A, c, A', c', e, e'⟩
end Go.Proofs.Ytkdendlgaaimbaa.X
