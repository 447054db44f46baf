/- Conditions: none. -/
import Derived.Test.YtkdendlgaaimbaaYNShd
namespace Go.Proofs.Ytkdendlgaaimbaa.X
open Go.RowKit Go.Proofs.Ytkdendlgaaimbaa.PSpP Go.Proofs.YtkdendlgaaimbaaW.PrintWords
set_option linter.unusedVariables false
set_option linter.unusedSimpArgs false
theorem least_l (ls : List (List Rw)) (f : List Tm) (hl : ls.length ≤ 1048576) (hls : ∀ y ∈ ls, y.length ≤ 1048576) : ∀ n i : Nat, 1 ≤ i → i + n + 1 = ls.length → Ev (fun k => spec_l12Least.l0 k (leastTo ls i : Nat) i ls f) ((leastTo ls (ls.length - 1) : Nat) : Int) := by
 intro n
 induction n with
 | zero =>
  intro i h1 hi
  refine Ev.succ (Ev.all fun k => ?_)
  simp only [spec_l12Least.l0]
  rw [wnext (m := ls.length) (by omega) (by omega), if_neg (by omega), show ls.length - 1 = i by omega]
 | succ n ih =>
  intro i h1 hi
  have hL := leastTo_lt ls i
  have hlen : ∀ j, (lay ls j).length ≤ 1048576 := fun j => by
   by_cases hj : j < ls.length
   ·exact hls _ (lay_mem hj)
   ·unfold lay
    rw [List.getD_eq_getElem?_getD, List.getElem?_eq_none (by omega)]
    simp
  have H := ih (i + 1) (by omega) (by omega)
  rw [leastTo_succ ls h1] at H
  refine Ev.succ (Ev.of H fun k => ?_)
  simp only [spec_l12Least.l0]
  have w1 : wrap64 ((i : Int) + 1) = ((i + 1 : Nat) : Int) := wnext (m := ls.length) (by omega) (by omega)
  have w2 : wrap64 ((leastTo ls i : Int) + 1) = ((leastTo ls i + 1 : Nat) : Int) := wnext (m := ls.length) (by omega) (by omega)
  rw [w1, w2, if_pos (by omega), if_pos (by omega), if_pos (by omega), if_pos (by omega), if_pos (by omega), if_pos (by omega), if_pos (by omega), if_pos (by omega)]
  show (if wrap64 (((lay ls i).length : Int) + ((lay ls (i + 1)).length : Int)) < wrap64 (((lay ls (leastTo ls i)).length : Int) + ((lay ls (leastTo ls i + 1)).length : Int)) then _ else _) = _
  have a1 := hlen i
  have a2 := hlen (i + 1)
  have a3 := hlen (leastTo ls i)
  have a4 := hlen (leastTo ls i + 1)
  rw [show wrap64 (((lay ls i).length : Int) + ((lay ls (i + 1)).length : Int)) = ((wl ls i : Nat) : Int) by unfold wl wrap64; omega, show wrap64 (((lay ls (leastTo ls i)).length : Int) + ((lay ls (leastTo ls i + 1)).length : Int)) = ((wl ls (leastTo ls i) : Nat) : Int) by unfold wl wrap64; omega]
  by_cases hw : wl ls i < wl ls (leastTo ls i)
  ·rw [if_pos (by omega), if_pos hw]
  ·rw [if_neg (by omega), if_neg hw]
theorem spec_l12Least (u v : Value) (ls : List (List Rw)) (f : List Tm) (w : World) (h : SpS w u v ls f) (hb : SpB ls f) (h2 : 2 ≤ ls.length) : Calls Try.prog 85 #[.agg #[u, v]] w (RetV w (.int .i64 (leastL6 ls : Nat))) := by
 obtain ⟨⟨A, c, rfl, hc, hr⟩, A2, c2, rfl, hc2, hr2⟩ := h
 obtain ⟨k, hk⟩ := (least_l ls f hb.l hb.ls (ls.length - 2) 1 (Nat.le_refl _) (by omega)).get
 exact spec_l12Least.calls k A c ls A2 c2 f _ w hr hc hr2 hc2 hk
end Go.Proofs.Ytkdendlgaaimbaa.X
