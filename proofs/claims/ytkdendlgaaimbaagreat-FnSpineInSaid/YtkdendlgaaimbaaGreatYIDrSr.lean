/- Conditions: none. -/
import Derived.Test.YtkdendlgaaimbaaGreatYIDrSq
import Derived.RegionTactic
import Derived.BigRegion
namespace Go.Proofs.YtkdendlgaaimbaaGreat.X
open Go.RowKit Go.Proofs.YtkdendlgaaimbaaGreatW.PrintWords Go.Proofs.YtkdendlgaaimbaaGreatW.PrintLast
set_option linter.unusedVariables false
set_option linter.unusedSimpArgs false
theorem below_un {w W : World} {o : Obj} (h : Below (w.alloc o).heap.size (w.alloc o) W) : Below w.heap.size w W :=
 ⟨h.os, h.tape, h.output, by have := h.size; simp at this; omega, fun j hj => (h.block j (by simp; omega)).trans (Below.heap_alloc w o j hj)⟩
theorem Rset2 {α : Type} {d : Kd α} {e base Y : Nat} {w : World} {v : Value} {xs : List α} (h : d.R e w base okT v xs) {z0 z1 : Value} (hY : w.heap[Y]? = some (.cells #[z0, z1] 26 (0, 0))) (hne : (e :: d.E).contains 26 = false) (x y : Value) : d.R e ((w.setCell ⟨Y, 0, none⟩ x).setCell ⟨Y, 1, none⟩ y) base okT v xs := by
 have h1 : d.R e (w.setCell ⟨Y, 0, none⟩ x) base okT v xs := Kd.R_mono (Kd.R_far (offT h hY hne) (p := ⟨Y, 0, none⟩) (fun k hk => hk.2) _) (fun _ _ => trivial)
 have hY1 : (w.setCell ⟨Y, 0, none⟩ x).heap[Y]? = some (.cells ((#[z0, z1]).setIfInBounds 0 x) 26 (0, 0)) := by simpa using blk_set hY 0 x
 exact Kd.R_mono (Kd.R_far (offT h1 hY1 hne) (p := ⟨Y, 1, none⟩) (fun k hk => hk.2) _) (fun _ _ => trivial)
end Go.Proofs.YtkdendlgaaimbaaGreat.X
