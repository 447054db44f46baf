/- Conditions: none. -/
import Derived.Test.YtkdendlgaaimbaaYNSb
import Derived.Test.YtkdendlgaaimbaaYNLw
import Derived.RegionTactic
import Derived.BigRegion
import Derived.Test.YtkdendlgaaimbaaYNDrawRows
import Derived.Test.YtkdendlgaaimbaaYCPl
import Derived.Test.YtkdendlgaaimbaaYNPl
namespace Go.Proofs.Ytkdendlgaaimbaa.X
open Go.RowKit Go.WideElems Go.MapKept Go.ChangeMaps Go.ChangeShapes Go.WideShapes Go.Proofs.YtkdendlgaaimbaaW.PrintWords
open Go.WideMaps (KeyLaw)
open Go.Maps (Keyed)
set_option linter.unusedVariables false
set_option linter.unusedSimpArgs false
end Go.Proofs.Ytkdendlgaaimbaa.X
namespace Go.Proofs.Ytkdendlgaaimbaa.X
open Go.RowKit Go.WideElems Go.MapKept Go.ChangeMaps Go.ChangeShapes Go.WideShapes Go.Proofs.YtkdendlgaaimbaaW.PrintWords
open Go.WideMaps (KeyLaw)
open Go.Maps (Keyed)
set_option linter.unusedVariables false
set_option linter.unusedSimpArgs false
theorem tJoin_okk {s t : Tm} (hs : tOk s = true) (ht : tOk t = true) : tOk (tJoin s t) = true := by
 unfold tJoin; rw [hs, ht]
 simp only [tOk, Bool.and_eq_true, decide_eq_true_eq] at hs ht
 simp only [Bool.and_self, if_true, tOk, tmax, Bool.and_eq_true, decide_eq_true_eq]
 split <;> split <;> omega
end Go.Proofs.Ytkdendlgaaimbaa.X
namespace Go.Proofs.Ytkdendlgaaimbaa.X
open Go.RowKit Go.Proofs.YtkdendlgaaimbaaW.PrintWords
set_option linter.unusedVariables false
set_option linter.unusedSimpArgs false
end Go.Proofs.Ytkdendlgaaimbaa.X
namespace Go.Proofs.Ytkdendlgaaimbaa.X
open Go.RowKit Go.Proofs.YtkdendlgaaimbaaW.PrintWords
set_option linter.unusedVariables false
set_option linter.unusedSimpArgs false
theorem lit2 {w : World} {g : Nat} {t : TypeId} {a b : Int} (h : w.heap[g]? = some (.cells #[.int .i64 a, .int .i64 b] t (0, 0))) (j : Nat) (hj : j < 2) : ∃ x, w.cell? ⟨g, j, none⟩ = some (.int .i64 x) ∧ (x = a ∨ x = b) := by
 rcases (show j = 0 ∨ j = 1 by omega) with rfl | rfl
 ·exact ⟨a, blk_cell h 0, .inl rfl⟩
 ·exact ⟨b, blk_cell h 1, .inr rfl⟩
section
variable {ops : Array Oper} {o : Oper} {a : Act} {Q : Exit → Act → World → Prop} {Kc : Act → World → Prop}
end
end Go.Proofs.Ytkdendlgaaimbaa.X
namespace Go.Proofs.Ytkdendlgaaimbaa.X
open Go.RowKit Go.Proofs.YtkdendlgaaimbaaW.PrintWords
set_option linter.unusedVariables false
set_option linter.unusedSimpArgs false
end Go.Proofs.Ytkdendlgaaimbaa.X
namespace Go.Proofs.Ytkdendlgaaimbaa.X
open Go.RowKit Go.Proofs.YtkdendlgaaimbaaW.PrintWords
set_option linter.unusedVariables false
set_option linter.unusedSimpArgs false
end Go.Proofs.Ytkdendlgaaimbaa.X
namespace Go.Proofs.Ytkdendlgaaimbaa.X
open Go.RowKit Go.Proofs.YtkdendlgaaimbaaW.PrintWords
set_option linter.unusedVariables false
set_option linter.unusedSimpArgs false
def tNear (t : Tm) : Prop := -1 ≤ t.f0 ∧ t.f0 ≤ 8 ∧ -1 ≤ t.f1 ∧ t.f1 ≤ 8
set_option maxRecDepth 100000 in
set_option maxHeartbeats 4000000 in
theorem spec_l71Odd {w0 W : World} {rb : Nat} {s : List Int} {p : Int} (hS : Aside0 (RS s)) (h : Rd w0 rb s p W) (hp : p ≤ 800000) :
  Calls Try.prog 88 #[.pointer (some ⟨rb, 0, none⟩)] W fun e W' => ∃ t : Tm, e = .returned (.agg #[.int .i64 t.f0, .int .i64 t.f1]) ∧ tNear t ∧ Adv w0 rb s p 6 W W' := by
 have hbl := h.lt
 have hge := h.ge
 have hbs := h.bel.size
 have hnn := h.nn
 have HR := Aside0.mk (h.alloc (.cells #[.int .i64 0, .int .i64 0] 43))
 have HV := Aside0.mk (alloc_grown W (.cells #[.int .i64 0, .int .i64 0] 43) (some rb))
 have HC := Aside0.mk (blk_new W (.cells #[.int .i64 0, .int .i64 0] 43))
 clear h
 go_enter Try.func88, Try.ntmps88
 go_upto_region 2 with (go_at_call 139; ((with_reducible refine (spec_l71Time hS HR.out (by omega)).mono ?_); rintro e wa ⟨a, b, rfl, ⟨a0, a1, b0, b1⟩, p1, g0, g1, hr1, hg1⟩; replace HC := Aside0.mk (blk_grown HC.out hg1 (by intro e; have := Option.some.inj e; omega)); replace HR := Aside0.mk hr1; replace HV := Aside0.mk (gthen HV.out hg1); clear hr1 hg1))
 have hwa := blk_lt HC.out
 refine name_world fun W1 hW => ?_
 have B0 : W1.heap[wa.heap.size]? = some (.cells #[.int .i64 a, .int .i64 b] 43 (0, 0)) := by rw [hW]; exact blk_new wa _
 have hb1 : Below wa.heap.size wa W1 := by rw [hW]; repeat (first | exact Below.refl _ _ | apply below_alloc | refine below_set ?_ (by simp))
 clear hW
 generalize hX : wa.heap.size = X at B0 ⊢
 have hXl : W.heap.size < X := by omega
 have hrX : rb ≠ X := by omega
 replace HC := Aside0.mk (blk_below HC.out hb1)
 replace HR := Aside0.mk (HR.out.below hb1)
 replace HV := Aside0.mk (grownBy_after HV.out hb1)
 have HX := Aside0.mk B0
 clear B0 hX hb1 hwa
 go_upto_block 0 with (go_at_call 69; ((with_reducible refine (spec_pick hS.out HR.out (by omega) 16 (by omega) (by omega)).mono ?_); rintro e w' ⟨t, rfl, t0, t1, hr, hg⟩; replace HX := Aside0.mk (blk_grown HX.out hg (by intro e; have := Option.some.inj e; omega)); replace HC := Aside0.mk (blk_grown HC.out hg (by intro e; have := Option.some.inj e; omega)); replace HV := Aside0.mk (gthen HV.out hg); replace HR := Aside0.mk hr; clear hr hg))
 go_cut [] (fun wc => ∃ (z : Tm) (p2 : Int), tNear z ∧ p1 ≤ p2 ∧ p2 ≤ p1 + 2 ∧ Aside0 (wc.heap[X]? = some (.cells #[.int .i64 z.f0, .int .i64 z.f1] 43 (0, 0))) ∧ Aside0 (wc.heap[W.heap.size]? = some (.cells #[.int .i64 0, .int .i64 0] 43 (0, 0))) ∧ Aside0 (Rd w0 rb s p2 wc) ∧ Aside0 (W.grownBy wc (some rb)))
 case first =>
  by_cases ht0 : t = 0
  ·subst ht0
   go_wp2_with (go_at_call 69; ((with_reducible refine (spec_pick hS.out (HR.out.alloc (.cells #[.int .i64 (-1), .int .i64 8] 3)) (by omega) 2 (by omega) (by omega)).mono ?_); rintro e w3 ⟨j, rfl, j0, j1, hr, hg⟩; obtain ⟨m, rfl⟩ := Int.eq_ofNat_of_zero_le j0; obtain ⟨z, hz, hzz⟩ := lit2 (blk_grown (blk_new w' (.cells #[.int .i64 (-1), .int .i64 8] 3)) hg (by have := HR.out.lt; intro e; have := Option.some.inj e; omega)) m (by omega); have HX3 := Aside0.mk (blk_grown (blk_alloc HX.out (.cells #[.int .i64 (-1), .int .i64 8] 3)) hg (by intro e; exact hrX (Option.some.inj e).symm)); have HC3 := Aside0.mk (blk_grown (blk_alloc HC.out (.cells #[.int .i64 (-1), .int .i64 8] 3)) hg (by intro e; have := Option.some.inj e; omega)); have HV3 := Aside0.mk (gthen (grownBy_after HV.out (below_alloc (Below.refl _ _) (.cells #[.int .i64 (-1), .int .i64 8] 3))) hg); have HR3 := Aside0.mk hr; have kx : w3.cell? ⟨X, 0, none⟩ = some (.int .i64 a) := blk_cell HX3.out 0; have kf := blk_fz HX3.out 0; clear hr hg))
   go_meet
   case rel => exact ⟨⟨z, b⟩, p1 + 1 + 1, by unfold tNear; rcases hzz with rfl | rfl <;> (simp only; omega), by omega, by omega, ⟨by simpa using blk_set HX3.out 0 (.int .i64 z)⟩, ⟨blk_far HC3.out (by show W.heap.size ≠ X; omega) _⟩, ⟨HR3.out.far hrX (by show w0.heap.size ≤ X; omega) _⟩, ⟨set_grownX (by show W.heap.size ≤ X; omega) HV3.out _⟩⟩
  ·by_cases ht1 : t = 1
   ·subst ht1
    go_wp2_with (go_at_call 69; ((with_reducible refine (spec_pick hS.out (HR.out.alloc (.cells #[.int .i64 (-1), .int .i64 8] 3)) (by omega) 2 (by omega) (by omega)).mono ?_); rintro e w3 ⟨j, rfl, j0, j1, hr, hg⟩; obtain ⟨m, rfl⟩ := Int.eq_ofNat_of_zero_le j0; obtain ⟨z, hz, hzz⟩ := lit2 (blk_grown (blk_new w' (.cells #[.int .i64 (-1), .int .i64 8] 3)) hg (by have := HR.out.lt; intro e; have := Option.some.inj e; omega)) m (by omega); have HX3 := Aside0.mk (blk_grown (blk_alloc HX.out (.cells #[.int .i64 (-1), .int .i64 8] 3)) hg (by intro e; exact hrX (Option.some.inj e).symm)); have HC3 := Aside0.mk (blk_grown (blk_alloc HC.out (.cells #[.int .i64 (-1), .int .i64 8] 3)) hg (by intro e; have := Option.some.inj e; omega)); have HV3 := Aside0.mk (gthen (grownBy_after HV.out (below_alloc (Below.refl _ _) (.cells #[.int .i64 (-1), .int .i64 8] 3))) hg); have HR3 := Aside0.mk hr; have kx : w3.cell? ⟨X, 1, none⟩ = some (.int .i64 b) := blk_cell HX3.out 1; have kf := blk_fz HX3.out 1; clear hr hg))
    go_meet
    case rel => exact ⟨⟨a, z⟩, p1 + 1 + 1, by unfold tNear; rcases hzz with rfl | rfl <;> (simp only; omega), by omega, by omega, ⟨by simpa using blk_set HX3.out 1 (.int .i64 z)⟩, ⟨blk_far HC3.out (by show W.heap.size ≠ X; omega) _⟩, ⟨HR3.out.far hrX (by show w0.heap.size ≤ X; omega) _⟩, ⟨set_grownX (by show W.heap.size ≤ X; omega) HV3.out _⟩⟩
   ·have q0 : (t == 0) = false := by simp [ht0]
    have q1 : (t == 1) = false := by simp [ht1]
    go_wp2
    go_meet
    case rel => exact ⟨⟨a, b⟩, p1 + 1, by unfold tNear; simp only; omega, by omega, by omega, HX, HC, HR, HV⟩
 case rest =>
  clear HX HC HR HV
  obtain ⟨z, p2, hz, hp2, hp3, HX, HC, HR, HV⟩ := hcut
  have c0 := blk_cell HX.out 0
  have c1 := blk_cell HX.out 1
  have k0 := blk_cell HC.out 0
  have k1 := blk_cell HC.out 1
  have kf0 := blk_fz HC.out 0
  have kf1 := blk_fz HC.out 1
  go_at_K
  go_wp2
  refine ret_cell (p := 2) (g := W.heap.size) rfl rfl rfl (blk2 HC.out _ _) Try.underlying43 rfl (by kernel_rfl) ?_
  exact ⟨z, rfl, hz, p2, by omega, by omega, (HR.out.far (by show rb ≠ W.heap.size; omega) (by show w0.heap.size ≤ W.heap.size; omega) _).far (by show rb ≠ W.heap.size; omega) (by show w0.heap.size ≤ W.heap.size; omega) _, set_grown _ _ _ (Nat.le_refl _) (set_grown _ _ _ (Nat.le_refl _) HV.out)⟩
end Go.Proofs.Ytkdendlgaaimbaa.X
namespace Go.Proofs.Ytkdendlgaaimbaa.X
open Go.RowKit Go.Proofs.YtkdendlgaaimbaaW.PrintWords
set_option linter.unusedVariables false
set_option linter.unusedSimpArgs false
section
variable {P : Program} {ops : Array Oper} {rest : List Oper} {o : Oper} {a : Act} {Q : Exit → Act → World → Prop}
end
end Go.Proofs.Ytkdendlgaaimbaa.X
namespace Go.Proofs.Ytkdendlgaaimbaa.X
open Go.RowKit Go.Proofs.YtkdendlgaaimbaaW.PrintWords
set_option linter.unusedVariables false
set_option linter.unusedSimpArgs false
end Go.Proofs.Ytkdendlgaaimbaa.X
namespace Go.Proofs.Ytkdendlgaaimbaa.X
open Go.RowKit
set_option linter.unusedVariables false
set_option linter.unusedSimpArgs false
theorem batchOk_rows {l : List Rw} (h : batchOk l = true) : rowsOk l = true := by unfold batchOk at h; rw [Bool.and_eq_true] at h; exact h.2
theorem batchAt_ok {l : List Rw} {t : Tm} (hl : rowsOk l = true) (ht : tOk t = true) : batchAt l t = present l t := by unfold batchAt; rw [hl, ht]; rfl
theorem tMeet_ok {s t : Tm} (hs : tOk s = true) (ht : tOk t = true) : tMeet s t = ⟨tmin s.f0 t.f0, tmin s.f1 t.f1⟩ := by unfold tMeet; rw [hs, ht]; rfl
theorem frontOk_all : ∀ {f : List Tm}, frontOk f = true → ∀ s ∈ f, tOk s = true := fun {f} h => by
 have go : ∀ (l : List Tm) (p : Tm), frontGo p l = true → ∀ s ∈ l, tOk s = true := fun l => by
  induction l with
  | nil => intro p _ s hs; cases hs
  | cons x l ih =>
   intro p hp s hs
   simp only [frontGo, Bool.and_eq_true] at hp
   rcases List.mem_cons.1 hs with rfl | hs
   ·exact hp.1.1
   ·exact ih x hp.2 s hs
 cases f with
 | nil => intro s hs; cases hs
 | cons x f =>
  intro s hs
  simp only [frontOk, Bool.and_eq_true] at h
  rcases List.mem_cons.1 hs with rfl | hs
  ·exact h.1
  ·exact go f x h.2 s hs
theorem mass_mv (f : List Tm) (l : List Rw) : mass (l.map (mv f)) = mass l := sg_map _ _ _
end Go.Proofs.Ytkdendlgaaimbaa.X
