/- Conditions: none. -/
import Derived.Test.YtkdendlgaaimbaaGreatYKDrSq
import Derived.RegionTactic
import Derived.BigRegion
namespace Go.Proofs.YtkdendlgaaimbaaGreat.X
open Go.RowKit Go.Proofs.YtkdendlgaaimbaaGreatW.PrintWords Go.Proofs.YtkdendlgaaimbaaGreatW.PrintLast
set_option linter.unusedVariables false
set_option linter.unusedSimpArgs false
theorem below_un {w W : World} {o : Obj} (h : Below (w.alloc o).heap.size (w.alloc o) W) : Below w.heap.size w W :=
 ⟨h.os, h.tape, h.output, by have := h.size; simp at this; omega, fun j hj => (h.block j (by simp; omega)).trans (Below.heap_alloc w o j hj)⟩
def SpnR (w : World) (e : Ending) (w' : World) : Prop := ∃ (u v : Value) (ls : List (List Rw)) (f : List Tm), e = .returned (.agg #[u, v]) ∧ SpS w' u v ls f ∧ SpD 300 ls f ∧ Below w.heap.size w w'
set_option maxRecDepth 100000 in
set_option maxHeartbeats 2000000 in
theorem spec_DrawSpineOk (v : Value) (l : List Int) (w : World) (h : Sl kB w v l) (hb : ∀ x ∈ l, 0 ≤ x ∧ x ≤ 255) : Calls Tryz.prog 15 #[v] w (SpnR w) := by
 have C1 := spec_l6Open v l (w.alloc (.cells #[.slice none 0 0, .slice none 0 0] 26)) (h.below (below_alloc (Below.refl _ _) _)) hb
 have HC := Aside0.mk (blk_new w (.cells #[.slice none 0 0, .slice none 0 0] 26))
 have hsz : (w.alloc (.cells #[.slice none 0 0, .slice none 0 0] 26)).heap.size = w.heap.size + 1 := by simp
 go_enter Tryz.func15, Tryz.ntmps15
 go_wp2_with (first
  | (go_at_call 25; ((with_reducible refine C1.mono ?_); rintro e V ⟨rb, s, rfl, hs, hrd, hba⟩; have hS := Aside0.mk hs; have HR := Aside0.mk hrd; have hge := hrd.ge; replace HC := Aside0.mk (blk_below HC.out hba); clear hs hrd))
  | (go_at_call 26; ((with_reducible refine (spec_l71Spine (V := V) hS HR.out (by omega)).mono ?_); rintro e wb ⟨u, v, ls, f, rfl, hsp, hd, p1, g0, g1, hrd, hg⟩; obtain ⟨A9, c9, e9⟩ := Kd.R_slice hsp.1; subst e9; obtain ⟨A10, c10, e9⟩ := Kd.R_slice hsp.2; subst e9; have HSP := Aside0.mk hsp; have HM := Aside0.mk hd; have HR2 := Aside0.mk hrd; have HC2 := Aside0.mk (blk_grown HC.out hg (by intro e; have := Option.some.inj e; omega)); have t0 := blk_cell HC2.out 0; have t1 := blk_cell HC2.out 1; have tf0 := blk_fz HC2.out 0; have tf1 := blk_fz HC2.out 1; clear hsp hd hrd hg)))
 refine ret_cell (p := 2) (g := w.heap.size) rfl rfl rfl (blk2 HC2.out _ _) Tryz.underlying26 rfl (by kernel_rfl) ?_
 exact ⟨_, _, ls, f, rfl, SpT.s (SpT.set2 HSP.out HC2.out _ _), HM.out.mono (by decide), below_set (below_set (below_un HR2.out.bel) (Nat.le_refl _)) (Nat.le_refl _)⟩
end Go.Proofs.YtkdendlgaaimbaaGreat.X
