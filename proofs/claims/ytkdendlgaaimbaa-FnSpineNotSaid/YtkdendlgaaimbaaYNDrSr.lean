/- Conditions: none. -/
import Derived.Test.YtkdendlgaaimbaaYNDrSq
import Derived.RegionTactic
import Derived.BigRegion
namespace Go.Proofs.Ytkdendlgaaimbaa.X
open Go.RowKit Go.Proofs.YtkdendlgaaimbaaW.PrintWords Go.Proofs.YtkdendlgaaimbaaW.PrintLast
set_option linter.unusedVariables false
set_option linter.unusedSimpArgs false
theorem below_un {w W : World} {o : Obj} (h : Below (w.alloc o).heap.size (w.alloc o) W) : Below w.heap.size w W :=
 ⟨h.os, h.tape, h.output, by have := h.size; simp at this; omega, fun j hj => (h.block j (by simp; omega)).trans (Below.heap_alloc w o j hj)⟩
end Go.Proofs.Ytkdendlgaaimbaa.X
