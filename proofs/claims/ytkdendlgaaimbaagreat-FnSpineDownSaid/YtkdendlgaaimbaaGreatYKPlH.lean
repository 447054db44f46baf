/- Conditions: none. -/
import Derived.Test.YtkdendlgaaimbaaGreatYKSb
import Derived.Test.YtkdendlgaaimbaaGreatYKLw
import Derived.RegionTactic
import Derived.BigRegion
import Derived.Test.YtkdendlgaaimbaaGreatYKDrawRows
import Derived.Test.YtkdendlgaaimbaaGreatYCPl
import Derived.Test.YtkdendlgaaimbaaGreatYKPl
namespace Go.Proofs.YtkdendlgaaimbaaGreat.X
open Go.RowKit Go.WideElems Go.MapKept Go.ChangeMaps Go.ChangeShapes Go.WideShapes Go.Proofs.YtkdendlgaaimbaaGreatW.PrintWords
open Go.WideMaps (KeyLaw)
open Go.Maps (Keyed)
set_option linter.unusedVariables false
set_option linter.unusedSimpArgs false
def allTm : List Tm := (List.range 64).map fun n => ⟨((n / 8 : Nat) : Int), ((n % 8 : Nat) : Int)⟩
theorem allTm_len : allTm.length = 64 := by simp [allTm]
theorem allTm_at {a b : Nat} (ha : a < 8) (hb : b < 8) : allTm[8 * a + b]? = some ⟨(a : Int), (b : Int)⟩ := by
 unfold allTm
 rw [List.getElem?_map, List.getElem?_range (by omega)]
 simp only [Option.map_some]
 rw [show (8 * a + b) / 8 = a by omega, show (8 * a + b) % 8 = b by omega]
theorem allTm_ok : ∀ t ∈ allTm, tOk t = true := fun t ht => by
 unfold allTm at ht
 obtain ⟨n, hn, rfl⟩ := List.mem_map.1 ht
 have := List.mem_range.1 hn
 simp only [tOk, Bool.and_eq_true, decide_eq_true_eq]; omega
set_option maxRecDepth 100000 in
set_option maxHeartbeats 4000000 in
theorem laws_lwAll (w : World) : Calls Tryz.prog 10 #[] w (RetR kTm 38 w allTm) := by
 have HN := Aside0.mk (R_none (d := kTm) (e := 38) (base := w.heap.size) (ok := okT) (blk_new w (.cells #[] 38)) (Nat.le_refl _) trivial)
 have HB := Aside0.mk (Below.refl w.heap.size w)
 go_enter Tryz.func10, Tryz.ntmps10
 replace HB := Aside0.mk (below_alloc HB.out (.cells #[] 38))
 go_wp2
 go_loopw [1, 2] (fun o i wr => ∃ (k : Nat), k ≤ 8 ∧ i = .int .i64 k ∧ Aside0 (kTm.R 38 wr w.heap.size okT o (allTm.take (8 * k))) ∧ Aside0 (Below w.heap.size w wr)) (fun _ i _ => 8 - (intOf i).toNat)
 case atStart => exact ⟨0, Nat.zero_le _, rfl, HN, HB⟩
 case round =>
  clear HB HN
  obtain ⟨k, hk, rfl, HO, HB⟩ := hrel
  by_cases hlt : k < 8
  ·have hlt' : (k : Int) ≤ 7 := by omega
   go_wp2
   go_loopw [1, 3] (fun o i wr => ∃ (j : Nat), j ≤ 8 ∧ i = .int .i64 j ∧ Aside0 (kTm.R 38 wr w.heap.size okT o (allTm.take (8 * k + j))) ∧ Aside0 (Below w.heap.size w wr)) (fun _ i _ => 8 - (intOf i).toNat)
   case atStart => exact ⟨0, Nat.zero_le _, rfl, HO, HB⟩
   case round =>
    clear HO HB
    obtain ⟨j, hj, rfl, HO, HB⟩ := hrel
    have hpl : (allTm.take (8 * k + j)).length ≤ 64 := by rw [List.length_take, allTm_len]; omega
    by_cases hlt2 : j < 8
    ·have hlt3 : (j : Int) ≤ 7 := by omega
     go_wp2_with (at_builtin; refine appTm (w0 := w) (base := w.heap.size) (xs := allTm.take (8 * k + j)) (ok := okT) rfl rfl rfl HO.out (fun _ _ => trivial) HB.out (by have := HB.out.size; omega) (by omega) ?_; intro v1 w1 hr1 hb1 hg1 ha1; have HO2 := Aside0.mk hr1; have HG_ := Aside0.mk hg1; replace HB := Aside0.mk hb1; clear hr1 hb1 hg1 ha1)
     go_roundw
     case rel => exact ⟨j + 1, by omega, by go_num, ⟨by rw [← Nat.add_assoc, take_snoc (allTm_at hlt hlt2)]; exact HO2.out⟩, HB⟩
     case measure => simp [intOf]; omega
    ·obtain rfl : j = 8 := by omega
     go_wp2
     go_roundw
     case rel => exact ⟨k + 1, by omega, by go_num, ⟨by rw [Nat.mul_add]; exact HO.out⟩, HB⟩
     case measure => simp [intOf]; omega
  ·obtain rfl : k = 8 := by omega
   rw [List.take_of_length_le (by rw [allTm_len]; omega)] at HO
   go_wp2
   go_ret
   exact RetR.mk HO.out HB.out
end Go.Proofs.YtkdendlgaaimbaaGreat.X
namespace Go.Proofs.YtkdendlgaaimbaaGreat.X
open Go.RowKit Go.WideElems Go.MapKept Go.ChangeMaps Go.ChangeShapes Go.WideShapes Go.Proofs.YtkdendlgaaimbaaGreatW.PrintWords
open Go.WideMaps (KeyLaw)
open Go.Maps (Keyed)
set_option linter.unusedVariables false
set_option linter.unusedSimpArgs false
theorem tJoin_okk {s t : Tm} (hs : tOk s = true) (ht : tOk t = true) : tOk (tJoin s t) = true := by
 unfold tJoin; rw [hs, ht]
 simp only [tOk, Bool.and_eq_true, decide_eq_true_eq] at hs ht
 simp only [Bool.and_self, if_true, tOk, tmax, Bool.and_eq_true, decide_eq_true_eq]
 split <;> split <;> omega
end Go.Proofs.YtkdendlgaaimbaaGreat.X
namespace Go.Proofs.YtkdendlgaaimbaaGreat.X
open Go.RowKit Go.Proofs.YtkdendlgaaimbaaGreatW.PrintWords
set_option linter.unusedVariables false
set_option linter.unusedSimpArgs false
end Go.Proofs.YtkdendlgaaimbaaGreat.X
namespace Go.Proofs.YtkdendlgaaimbaaGreat.X
open Go.RowKit Go.Proofs.YtkdendlgaaimbaaGreatW.PrintWords
set_option linter.unusedVariables false
set_option linter.unusedSimpArgs false
theorem lit2 {w : World} {g : Nat} {t : TypeId} {a b : Int} (h : w.heap[g]? = some (.cells #[.int .i64 a, .int .i64 b] t (0, 0))) (j : Nat) (hj : j < 2) : ∃ x, w.cell? ⟨g, j, none⟩ = some (.int .i64 x) ∧ (x = a ∨ x = b) := by
 rcases (show j = 0 ∨ j = 1 by omega) with rfl | rfl
 ·exact ⟨a, blk_cell h 0, .inl rfl⟩
 ·exact ⟨b, blk_cell h 1, .inr rfl⟩
section
variable {ops : Array Oper} {o : Oper} {a : Act} {Q : Exit → Act → World → Prop} {Kc : Act → World → Prop}
end
end Go.Proofs.YtkdendlgaaimbaaGreat.X
namespace Go.Proofs.YtkdendlgaaimbaaGreat.X
open Go.RowKit Go.Proofs.YtkdendlgaaimbaaGreatW.PrintWords
set_option linter.unusedVariables false
set_option linter.unusedSimpArgs false
end Go.Proofs.YtkdendlgaaimbaaGreat.X
namespace Go.Proofs.YtkdendlgaaimbaaGreat.X
open Go.RowKit Go.Proofs.YtkdendlgaaimbaaGreatW.PrintWords
set_option linter.unusedVariables false
set_option linter.unusedSimpArgs false
end Go.Proofs.YtkdendlgaaimbaaGreat.X
namespace Go.Proofs.YtkdendlgaaimbaaGreat.X
open Go.RowKit Go.Proofs.YtkdendlgaaimbaaGreatW.PrintWords
set_option linter.unusedVariables false
set_option linter.unusedSimpArgs false
def tNear (t : Tm) : Prop := -1 ≤ t.f0 ∧ t.f0 ≤ 8 ∧ -1 ≤ t.f1 ∧ t.f1 ≤ 8
set_option maxRecDepth 100000 in
set_option maxHeartbeats 4000000 in
theorem spec_l71Odd {w0 W : World} {rb : Nat} {s : List Int} {p : Int} (hS : Aside0 (RS s)) (h : Rd w0 rb s p W) (hp : p ≤ 800000) :
  Calls Tryz.prog 56 #[.pointer (some ⟨rb, 0, none⟩)] W fun e W' => ∃ t : Tm, e = .returned (.agg #[.int .i64 t.f0, .int .i64 t.f1]) ∧ tNear t ∧ Adv w0 rb s p 6 W W' := by
 have hbl := h.lt
 have hge := h.ge
 have hbs := h.bel.size
 have hnn := h.nn
 have HR := Aside0.mk (h.alloc (.cells #[.int .i64 0, .int .i64 0] 38))
 have HV := Aside0.mk (alloc_grown W (.cells #[.int .i64 0, .int .i64 0] 38) (some rb))
 have HC := Aside0.mk (blk_new W (.cells #[.int .i64 0, .int .i64 0] 38))
 clear h
 go_enter Tryz.func56, Tryz.ntmps56
 go_upto_region 2 with (go_at_call 76; ((with_reducible refine (spec_l71Time hS HR.out (by omega)).mono ?_); rintro e wa ⟨a, b, rfl, ⟨a0, a1, b0, b1⟩, p1, g0, g1, hr1, hg1⟩; replace HC := Aside0.mk (blk_grown HC.out hg1 (by intro e; have := Option.some.inj e; omega)); replace HR := Aside0.mk hr1; replace HV := Aside0.mk (gthen HV.out hg1); clear hr1 hg1))
 have hwa := blk_lt HC.out
 refine name_world fun W1 hW => ?_
 have B0 : W1.heap[wa.heap.size]? = some (.cells #[.int .i64 a, .int .i64 b] 38 (0, 0)) := by rw [hW]; exact blk_new wa _
 have hb1 : Below wa.heap.size wa W1 := by rw [hW]; repeat (first | exact Below.refl _ _ | apply below_alloc | refine below_set ?_ (by simp))
 clear hW
 generalize hX : wa.heap.size = X at B0 ⊢
 have hXl : W.heap.size < X := by omega
 have hrX : rb ≠ X := by omega
 replace HC := Aside0.mk (blk_below HC.out hb1)
 replace HR := Aside0.mk (HR.out.below hb1)
 replace HV := Aside0.mk (grownBy_after HV.out hb1)
 have HX := Aside0.mk B0
 clear B0 hX hb1 hwa
 go_upto_block 0 with (go_at_call 27; ((with_reducible refine (spec_pick hS.out HR.out (by omega) 16 (by omega) (by omega)).mono ?_); rintro e w' ⟨t, rfl, t0, t1, hr, hg⟩; replace HX := Aside0.mk (blk_grown HX.out hg (by intro e; have := Option.some.inj e; omega)); replace HC := Aside0.mk (blk_grown HC.out hg (by intro e; have := Option.some.inj e; omega)); replace HV := Aside0.mk (gthen HV.out hg); replace HR := Aside0.mk hr; clear hr hg))
 go_cut [] (fun wc => ∃ (z : Tm) (p2 : Int), tNear z ∧ p1 ≤ p2 ∧ p2 ≤ p1 + 2 ∧ Aside0 (wc.heap[X]? = some (.cells #[.int .i64 z.f0, .int .i64 z.f1] 38 (0, 0))) ∧ Aside0 (wc.heap[W.heap.size]? = some (.cells #[.int .i64 0, .int .i64 0] 38 (0, 0))) ∧ Aside0 (Rd w0 rb s p2 wc) ∧ Aside0 (W.grownBy wc (some rb)))
 case first =>
  by_cases ht0 : t = 0
  ·subst ht0
   go_wp2_with (go_at_call 27; ((with_reducible refine (spec_pick hS.out (HR.out.alloc (.cells #[.int .i64 (-1), .int .i64 8] 3)) (by omega) 2 (by omega) (by omega)).mono ?_); rintro e w3 ⟨j, rfl, j0, j1, hr, hg⟩; obtain ⟨m, rfl⟩ := Int.eq_ofNat_of_zero_le j0; obtain ⟨z, hz, hzz⟩ := lit2 (blk_grown (blk_new w' (.cells #[.int .i64 (-1), .int .i64 8] 3)) hg (by have := HR.out.lt; intro e; have := Option.some.inj e; omega)) m (by omega); have HX3 := Aside0.mk (blk_grown (blk_alloc HX.out (.cells #[.int .i64 (-1), .int .i64 8] 3)) hg (by intro e; exact hrX (Option.some.inj e).symm)); have HC3 := Aside0.mk (blk_grown (blk_alloc HC.out (.cells #[.int .i64 (-1), .int .i64 8] 3)) hg (by intro e; have := Option.some.inj e; omega)); have HV3 := Aside0.mk (gthen (grownBy_after HV.out (below_alloc (Below.refl _ _) (.cells #[.int .i64 (-1), .int .i64 8] 3))) hg); have HR3 := Aside0.mk hr; have kx : w3.cell? ⟨X, 0, none⟩ = some (.int .i64 a) := blk_cell HX3.out 0; have kf := blk_fz HX3.out 0; clear hr hg))
   go_meet
   case rel => exact ⟨⟨z, b⟩, p1 + 1 + 1, by unfold tNear; rcases hzz with rfl | rfl <;> (simp only; omega), by omega, by omega, ⟨by simpa using blk_set HX3.out 0 (.int .i64 z)⟩, ⟨blk_far HC3.out (by show W.heap.size ≠ X; omega) _⟩, ⟨HR3.out.far hrX (by show w0.heap.size ≤ X; omega) _⟩, ⟨set_grownX (by show W.heap.size ≤ X; omega) HV3.out _⟩⟩
  ·by_cases ht1 : t = 1
   ·subst ht1
    go_wp2_with (go_at_call 27; ((with_reducible refine (spec_pick hS.out (HR.out.alloc (.cells #[.int .i64 (-1), .int .i64 8] 3)) (by omega) 2 (by omega) (by omega)).mono ?_); rintro e w3 ⟨j, rfl, j0, j1, hr, hg⟩; obtain ⟨m, rfl⟩ := Int.eq_ofNat_of_zero_le j0; obtain ⟨z, hz, hzz⟩ := lit2 (blk_grown (blk_new w' (.cells #[.int .i64 (-1), .int .i64 8] 3)) hg (by have := HR.out.lt; intro e; have := Option.some.inj e; omega)) m (by omega); have HX3 := Aside0.mk (blk_grown (blk_alloc HX.out (.cells #[.int .i64 (-1), .int .i64 8] 3)) hg (by intro e; exact hrX (Option.some.inj e).symm)); have HC3 := Aside0.mk (blk_grown (blk_alloc HC.out (.cells #[.int .i64 (-1), .int .i64 8] 3)) hg (by intro e; have := Option.some.inj e; omega)); have HV3 := Aside0.mk (gthen (grownBy_after HV.out (below_alloc (Below.refl _ _) (.cells #[.int .i64 (-1), .int .i64 8] 3))) hg); have HR3 := Aside0.mk hr; have kx : w3.cell? ⟨X, 1, none⟩ = some (.int .i64 b) := blk_cell HX3.out 1; have kf := blk_fz HX3.out 1; clear hr hg))
    go_meet
    case rel => exact ⟨⟨a, z⟩, p1 + 1 + 1, by unfold tNear; rcases hzz with rfl | rfl <;> (simp only; omega), by omega, by omega, ⟨by simpa using blk_set HX3.out 1 (.int .i64 z)⟩, ⟨blk_far HC3.out (by show W.heap.size ≠ X; omega) _⟩, ⟨HR3.out.far hrX (by show w0.heap.size ≤ X; omega) _⟩, ⟨set_grownX (by show W.heap.size ≤ X; omega) HV3.out _⟩⟩
   ·have q0 : (t == 0) = false := by simp [ht0]
    have q1 : (t == 1) = false := by simp [ht1]
    go_wp2
    go_meet
    case rel => exact ⟨⟨a, b⟩, p1 + 1, by unfold tNear; simp only; omega, by omega, by omega, HX, HC, HR, HV⟩
 case rest =>
  clear HX HC HR HV
  obtain ⟨z, p2, hz, hp2, hp3, HX, HC, HR, HV⟩ := hcut
  have c0 := blk_cell HX.out 0
  have c1 := blk_cell HX.out 1
  have k0 := blk_cell HC.out 0
  have k1 := blk_cell HC.out 1
  have kf0 := blk_fz HC.out 0
  have kf1 := blk_fz HC.out 1
  go_at_K
  go_wp2
  refine ret_cell (p := 2) (g := W.heap.size) rfl rfl rfl (blk2 HC.out _ _) Tryz.underlying38 rfl (by kernel_rfl) ?_
  exact ⟨z, rfl, hz, p2, by omega, by omega, (HR.out.far (by show rb ≠ W.heap.size; omega) (by show w0.heap.size ≤ W.heap.size; omega) _).far (by show rb ≠ W.heap.size; omega) (by show w0.heap.size ≤ W.heap.size; omega) _, set_grown _ _ _ (Nat.le_refl _) (set_grown _ _ _ (Nat.le_refl _) HV.out)⟩
end Go.Proofs.YtkdendlgaaimbaaGreat.X
namespace Go.Proofs.YtkdendlgaaimbaaGreat.X
open Go.RowKit Go.Proofs.YtkdendlgaaimbaaGreatW.PrintWords
set_option linter.unusedVariables false
set_option linter.unusedSimpArgs false
section
variable {P : Program} {ops : Array Oper} {rest : List Oper} {o : Oper} {a : Act} {Q : Exit → Act → World → Prop}
end
end Go.Proofs.YtkdendlgaaimbaaGreat.X
namespace Go.Proofs.YtkdendlgaaimbaaGreat.X
open Go.RowKit Go.Proofs.YtkdendlgaaimbaaGreatW.PrintWords
set_option linter.unusedVariables false
set_option linter.unusedSimpArgs false
end Go.Proofs.YtkdendlgaaimbaaGreat.X
namespace Go.Proofs.YtkdendlgaaimbaaGreat.X
open Go.RowKit Go.Proofs.YtkdendlgaaimbaaGreatW.PrintWords
set_option linter.unusedVariables false
set_option linter.unusedSimpArgs false
end Go.Proofs.YtkdendlgaaimbaaGreat.X
namespace Go.Proofs.YtkdendlgaaimbaaGreat.X
open Go.RowKit Go.Proofs.YtkdendlgaaimbaaGreatW.PrintWords
set_option linter.unusedVariables false
set_option linter.unusedSimpArgs false
end Go.Proofs.YtkdendlgaaimbaaGreat.X
namespace Go.Proofs.YtkdendlgaaimbaaGreat.X
open Go.RowKit
set_option linter.unusedVariables false
set_option linter.unusedSimpArgs false
end Go.Proofs.YtkdendlgaaimbaaGreat.X
namespace Go.Proofs.YtkdendlgaaimbaaGreat.X
open Go.RowKit
set_option linter.unusedVariables false
set_option linter.unusedSimpArgs false
theorem shR_append (φ : Wt) (s t : List Rw) : sg (sh φ) (s ++ t) = sg (sh φ) s + sg (sh φ) t := sg_append _ _ _
theorem sh_present (ψ : Int → Int → Int) (l : List Rw) (t : Tm) : sg (shI ψ) (presentOf l t) = sg (sh fun a b c => if below c t = true then ψ a b else 0) l := by
 unfold presentOf
 rw [sh_itemOf, sg_filter]
 refine sg_congr fun x _ => ?_
 unfold sh
 by_cases h : below x.f2 t = true <;> simp [h]
theorem mass_presentOf (l : List Rw) (t : Tm) : massI (presentOf l t) ≤ mass l := by
 unfold presentOf
 rw [mass_itemOf]
 unfold mass
 rw [sg_filter]
 exact sg_le fun x _ => by split <;> omega
end Go.Proofs.YtkdendlgaaimbaaGreat.X
namespace Go.Proofs.YtkdendlgaaimbaaGreat.X
open Go.RowKit
set_option linter.unusedVariables false
set_option linter.unusedSimpArgs false
def upW (t : Tm) (ψ : Int → Int → Int) : Wt := fun a b c => if below c t = true then ψ a b else 0
theorem sh_present' (ψ : Int → Int → Int) (l : List Rw) (t : Tm) : sg (shI ψ) (presentOf l t) = sg (sh (upW t ψ)) l := sh_present ψ l t
theorem below_join {c d t : Tm} (hc : tOk c = true) (hd : tOk d = true) : below (tJoin c d) t = (below c t && below d t) := by
 unfold tJoin; rw [hc, hd]
 simp only [Bool.and_self, if_true, below, tmax]
 rw [Bool.eq_iff_iff]
 simp only [Bool.and_eq_true, decide_eq_true_eq]
 split <;> split <;> omega
end Go.Proofs.YtkdendlgaaimbaaGreat.X
namespace Go.Proofs.YtkdendlgaaimbaaGreat.X
open Go.RowKit
set_option linter.unusedVariables false
set_option linter.unusedSimpArgs false
def inR (a : Int) : Prop := -9223372036854775808 ≤ a ∧ a < 9223372036854775808
theorem inR_wrap (a : Int) : inR (wrap64 a) := by unfold inR wrap64; omega
theorem put_inR {r : Rw} (hr : inR r.f3) : ∀ {s : List Rw}, (∀ x ∈ s, inR x.f3) → ∀ x ∈ put r s, inR x.f3
 | [], _, x, hx => by rw [put, List.mem_singleton] at hx; rw [hx]; exact hr
 | y :: s, hs, x, hx => by
  rw [put] at hx
  split at hx
  ·rcases List.mem_cons.1 hx with rfl | hx
   ·exact hr
   ·exact hs x hx
  ·split at hx
   ·rcases List.mem_cons.1 hx with rfl | hx
    ·exact inR_wrap _
    ·exact hs x (List.mem_cons_of_mem _ hx)
   ·rcases List.mem_cons.1 hx with rfl | hx
    ·exact hs _ List.mem_cons_self
    ·exact put_inR hr (fun z hz => hs z (List.mem_cons_of_mem _ hz)) x hx
theorem putAll_inR : ∀ {l s : List Rw}, (∀ x ∈ l, inR x.f3) → (∀ x ∈ s, inR x.f3) → ∀ x ∈ putAll s l, inR x.f3
 | [], s, _, hs => hs
 | r :: l, s, hl, hs => fun x hx => putAll_inR (l := l) (s := put r s) (fun y hy => hl y (List.mem_cons_of_mem _ hy)) (put_inR (hl r List.mem_cons_self) hs) x hx
theorem sum_inR {l : List Rw} (h : ∀ x ∈ l, inR x.f3) : ∀ x ∈ sum l, inR x.f3 := fun x hx =>
 putAll_inR h (fun y hy => by cases hy) x (List.mem_filter.1 hx).1
end Go.Proofs.YtkdendlgaaimbaaGreat.X
namespace Go.Proofs.YtkdendlgaaimbaaGreat.X
open Go.RowKit
set_option linter.unusedVariables false
set_option linter.unusedSimpArgs false
end Go.Proofs.YtkdendlgaaimbaaGreat.X
namespace Go.Proofs.YtkdendlgaaimbaaGreat.X
open Go.RowKit Go.Proofs.YtkdendlgaaimbaaGreatW.PrintWords
set_option linter.unusedVariables false
set_option linter.unusedSimpArgs false
end Go.Proofs.YtkdendlgaaimbaaGreat.X
namespace Go.Proofs.YtkdendlgaaimbaaGreat.X
open Go.RowKit
set_option linter.unusedVariables false
set_option linter.unusedSimpArgs false
theorem below_trans {s t u : Tm} (h : below s t = true) (g : below t u = true) : below s u = true := by
 simp only [below, Bool.and_eq_true, decide_eq_true_eq] at h g ⊢; omega
theorem below_refl (t : Tm) : below t t = true := by simp [below]
theorem tmax_le (a b : Int) : a ≤ tmax a b ∧ b ≤ tmax a b := by unfold tmax; split <;> omega
theorem below_joinL {c d : Tm} (hc : tOk c = true) (hd : tOk d = true) : below c (tJoin c d) = true ∧ below d (tJoin c d) = true := by
 have e : tJoin c d = ⟨tmax c.f0 d.f0, tmax c.f1 d.f1⟩ := by unfold tJoin; rw [hc, hd]; rfl
 rw [e]
 simp only [below, Bool.and_eq_true, decide_eq_true_eq]
 exact ⟨⟨(tmax_le _ _).1, (tmax_le _ _).1⟩, ⟨(tmax_le _ _).2, (tmax_le _ _).2⟩⟩
end Go.Proofs.YtkdendlgaaimbaaGreat.X
namespace Go.Proofs.YtkdendlgaaimbaaGreat.X
open Go.RowKit
set_option linter.unusedVariables false
set_option linter.unusedSimpArgs false
theorem batchOk_rows {l : List Rw} (h : batchOk l = true) : rowsOk l = true := by unfold batchOk at h; rw [Bool.and_eq_true] at h; exact h.2
theorem tmin_or (a b : Int) : tmin a b ≤ a ∧ tmin a b ≤ b ∧ (tmin a b = a ∨ tmin a b = b) := by unfold tmin; split <;> omega
theorem tMeet_ok {s t : Tm} (hs : tOk s = true) (ht : tOk t = true) : tMeet s t = ⟨tmin s.f0 t.f0, tmin s.f1 t.f1⟩ := by unfold tMeet; rw [hs, ht]; rfl
theorem tMeet_in {s t : Tm} (hs : tOk s = true) (ht : tOk t = true) : tOk (tMeet s t) = true := by
 rw [tMeet_ok hs ht]
 simp only [tOk, Bool.and_eq_true, decide_eq_true_eq] at hs ht ⊢
 have h0 := tmin_or s.f0 t.f0
 have h1 := tmin_or s.f1 t.f1
 omega
theorem below_meet {c d t : Tm} (hc : tOk c = true) (hd : tOk d = true) : below t (tMeet c d) = (below t c && below t d) := by
 rw [tMeet_ok hc hd, Bool.eq_iff_iff]
 simp only [below, Bool.and_eq_true, decide_eq_true_eq]
 have h0 := tmin_or c.f0 d.f0
 have h1 := tmin_or c.f1 d.f1
 omega
theorem meet_below {c d : Tm} (hc : tOk c = true) (hd : tOk d = true) : below (tMeet c d) c = true ∧ below (tMeet c d) d = true := by
 rw [tMeet_ok hc hd]
 simp only [below, Bool.and_eq_true, decide_eq_true_eq]
 have h0 := tmin_or c.f0 d.f0
 have h1 := tmin_or c.f1 d.f1
 omega
theorem moveGo_in {t : Tm} (ht : tOk t = true) : ∀ (l : List Tm) (o : Tm), tOk o = true → (∀ s ∈ l, tOk s = true) → below t o = true →
  tOk (moveGo t o l) = true ∧ below t (moveGo t o l) = true ∧ below (moveGo t o l) o = true ∧ ∀ s ∈ l, below (moveGo t o l) (tJoin s t) = true
 | [], o, ho, _, hb => ⟨ho, hb, below_refl _, fun s hs => by cases hs⟩
 | s :: l, o, ho, hl, hb => by
  have hs := hl s List.mem_cons_self
  have hj := tJoin_okk hs ht
  have hbj := (below_joinL hs ht).2
  obtain ⟨i1, i2, i3, i4⟩ := moveGo_in ht l (tMeet o (tJoin s t)) (tMeet_in ho hj) (fun u hu => hl u (List.mem_cons_of_mem _ hu)) (by rw [below_meet ho hj, hb, hbj]; rfl)
  obtain ⟨m1, m2⟩ := meet_below ho hj
  rw [moveGo]
  refine ⟨i1, i2, below_trans i3 m1, fun u hu => ?_⟩
  rcases List.mem_cons.1 hu with rfl | hu
  ·exact below_trans i3 m2
  ·exact i4 u hu
theorem frontOk_all : ∀ {f : List Tm}, frontOk f = true → ∀ s ∈ f, tOk s = true := fun {f} h => by
 have go : ∀ (l : List Tm) (p : Tm), frontGo p l = true → ∀ s ∈ l, tOk s = true := fun l => by
  induction l with
  | nil => intro p _ s hs; cases hs
  | cons x l ih =>
   intro p hp s hs
   simp only [frontGo, Bool.and_eq_true] at hp
   rcases List.mem_cons.1 hs with rfl | hs
   ·exact hp.1.1
   ·exact ih x hp.2 s hs
 cases f with
 | nil => intro s hs; cases hs
 | cons x f =>
  intro s hs
  simp only [frontOk, Bool.and_eq_true] at h
  rcases List.mem_cons.1 hs with rfl | hs
  ·exact h.1
  ·exact go f x h.2 s hs
theorem moved_ok {f : List Tm} {s : Tm} (hf : ∀ u ∈ f, tOk u = true) (hs : tOk s = true) : tOk (moved f s) = true ∧ below s (moved f s) = true ∧ ∀ u ∈ f, below (moved f s) (tJoin u s) = true := by
 cases f with
 | nil => exact ⟨hs, below_refl _, fun u hu => by cases hu⟩
 | cons u f =>
  have hu := hf u List.mem_cons_self
  obtain ⟨i1, i2, i3, i4⟩ := moveGo_in hs (u :: f) (tJoin u s) (tJoin_okk hu hs) hf (below_joinL hu hs).2
  exact ⟨i1, i2, i4⟩
theorem moved_below {f : List Tm} {s t : Tm} (hf : ∀ u ∈ f, tOk u = true) (hs : tOk s = true) (ht : f = [] ∨ beyond f t = true) : below (moved f s) t = below s t := by
 obtain ⟨i1, i2, i3⟩ := moved_ok hf hs
 rcases ht with rfl | ht
 ·rfl
 ·rw [Bool.eq_iff_iff]
  refine ⟨fun h => below_trans i2 h, fun h => ?_⟩
  obtain ⟨u, hu, hb⟩ := List.any_eq_true.1 ht
  refine below_trans (i3 u hu) ?_
  rw [below_join (hf u hu) hs, hb, h]; rfl
theorem mv_ok {f : List Tm} {r : Rw} (hf : ∀ u ∈ f, tOk u = true) (hr : rowOk r = true) : rowOk (mv f r) = true := by
 simp only [rowOk, Bool.and_eq_true] at hr ⊢
 exact ⟨⟨⟨hr.1.1.1, (moved_ok hf hr.1.1.2).1⟩, hr.1.2⟩, hr.2⟩
theorem mass_mv (f : List Tm) (l : List Rw) : mass (l.map (mv f)) = mass l := sg_map _ _ _
end Go.Proofs.YtkdendlgaaimbaaGreat.X
