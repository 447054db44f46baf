/- Conditions: none. -/
import Derived.Test.YtkdendlgaaimbaaYOSb
import Derived.Test.YtkdendlgaaimbaaYOLw
import Derived.RegionTactic
import Derived.BigRegion
import Derived.Test.YtkdendlgaaimbaaYODrawRows
import Derived.Test.YtkdendlgaaimbaaYCPl
import Derived.Test.YtkdendlgaaimbaaYOPl
namespace Go.Proofs.Ytkdendlgaaimbaa.X
open Go.RowKit Go.WideElems Go.MapKept Go.ChangeMaps Go.ChangeShapes Go.WideShapes Go.Proofs.YtkdendlgaaimbaaW.PrintWords
open Go.WideMaps (KeyLaw)
open Go.Maps (Keyed)
set_option linter.unusedVariables false
set_option linter.unusedSimpArgs false
end Go.Proofs.Ytkdendlgaaimbaa.X
namespace Go.Proofs.Ytkdendlgaaimbaa.X
open Go.RowKit Go.WideElems Go.MapKept Go.ChangeMaps Go.ChangeShapes Go.WideShapes Go.Proofs.YtkdendlgaaimbaaW.PrintWords
open Go.WideMaps (KeyLaw)
open Go.Maps (Keyed)
set_option linter.unusedVariables false
set_option linter.unusedSimpArgs false
theorem tJoin_okk {s t : Tm} (hs : tOk s = true) (ht : tOk t = true) : tOk (tJoin s t) = true := by
 unfold tJoin; rw [hs, ht]
 simp only [tOk, Bool.and_eq_true, decide_eq_true_eq] at hs ht
 simp only [Bool.and_self, if_true, tOk, tmax, Bool.and_eq_true, decide_eq_true_eq]
 split <;> split <;> omega
end Go.Proofs.Ytkdendlgaaimbaa.X
namespace Go.Proofs.Ytkdendlgaaimbaa.X
open Go.RowKit Go.Proofs.YtkdendlgaaimbaaW.PrintWords
set_option linter.unusedVariables false
set_option linter.unusedSimpArgs false
end Go.Proofs.Ytkdendlgaaimbaa.X
namespace Go.Proofs.Ytkdendlgaaimbaa.X
open Go.RowKit Go.Proofs.YtkdendlgaaimbaaW.PrintWords
set_option linter.unusedVariables false
set_option linter.unusedSimpArgs false
theorem lit2 {w : World} {g : Nat} {t : TypeId} {a b : Int} (h : w.heap[g]? = some (.cells #[.int .i64 a, .int .i64 b] t (0, 0))) (j : Nat) (hj : j < 2) : ∃ x, w.cell? ⟨g, j, none⟩ = some (.int .i64 x) ∧ (x = a ∨ x = b) := by
 rcases (show j = 0 ∨ j = 1 by omega) with rfl | rfl
 ·exact ⟨a, blk_cell h 0, .inl rfl⟩
 ·exact ⟨b, blk_cell h 1, .inr rfl⟩
section
variable {ops : Array Oper} {o : Oper} {a : Act} {Q : Exit → Act → World → Prop} {Kc : Act → World → Prop}
theorem stepsRw {W : World} {base : Nat} {s x : Operand} {xs ys : List Rw} {ok : Nat → Prop} (hw : Region.wanted o (yielded ops a.tmps) = true)
  (ho : o.op = .call { callee := .builtin .append, args := #[s, x], argTypes := #[27, 27] })
  (HS : Sl kRw W (a.eval x) ys) (HO : kRw.R 102 W base ok (a.eval s) xs) (hfresh : ∀ k, W.heap.size ≤ k → ok k) (hbase : base ≤ W.heap.size) (hl : xs.length + ys.length < 3518437208000)
  (h : ∀ v1 w1, kRw.R 102 w1 base ok v1 (xs ++ ys) → Below base W w1 → W.grownBy w1 (a.eval s).ownBlock → Kc (a.put o.dst v1) w1) :
  if Region.wanted o (yielded ops a.tmps) = true then Oper.wp Try.prog o a W Kc Q else Kc (a.put o.dst undef) W := by
 obtain ⟨A, c, hv, hc, hC⟩ := HS
 exact Kd.R_append_rows_step kRw (w0 := W) base hw s x 27 102 (.agg #[.int .i64 0, .int .i64 0, .int .i64 0, .int .i64 0, .int .i64 0]) 40 ho Try.underlying27 infoRw rfl (by decide) (by omega) _ xs ys A _ c ok (fun _ => False) rfl hv HO hC (fun _ _ hk => kRw_M.2 (kRw_K.1 hk)) (fun _ hk => hk.elim) hfresh (Below.refl _ _) hbase (by omega) (fun v1 w1 h1 h2 h3 _ => h v1 w1 h1 h2 h3)
end
theorem one_Sl {w : World} {g : Nat} {y : Rw} {t : TypeId} (h : w.heap[g]? = some (.cells #[.int .i64 y.f0, .int .i64 y.f1, .int .i64 y.f2.f0, .int .i64 y.f2.f1, .int .i64 y.f3] t (0, 0))) : Sl kRw w (.slice (some ⟨g, 0, none⟩) 1 1) [y] := by
 refine ⟨some ⟨g, 0, none⟩, 1, rfl, Nat.le_refl _, rfl, by show 1 ≤ 9223372036854775807; decide, fun _ => ⟨_, rfl, fun j p hj => ?_⟩⟩
 have hj0 : j = 0 := by have := (List.getElem?_eq_some_iff.1 hj).1; simp at this; omega
 subst hj0
 have : p = y := by simpa using hj.symm
 subst this
 refine ⟨vRw p, rfl, kRw_K.2 rfl, fun i u hu => ?_⟩
 rw [Nat.zero_mul, Nat.zero_add, add_plain, blk_cell h]
 rw [← List.getElem?_toArray] at hu
 exact hu
def dOk (r : Rw) : Prop := (-3 ≤ r.f3 ∧ r.f3 ≤ 3) ∨ r.f3 = -100000 ∨ r.f3 = 100000
theorem dOk_small {r : Rw} (h : small r) : dOk r := .inl (by unfold small at h; omega)
def RowsD (l : List Rw) : Prop := l.length ≤ 11 ∧ (rowsOk l = true → (∀ r ∈ l, small r) ∧ l.length ≤ 10) ∧ ∀ r ∈ l, dOk r
theorem RowsD.bad {l : List Rw} {x : Rw} (hl : l.length ≤ 10) (hx : rowOk x = false) (hs : ∀ r ∈ l, small r) (hd : dOk x) : RowsD (l ++ [x]) := by
 refine ⟨by rw [List.length_append, List.length_singleton]; omega, fun h => ?_, fun r hr => (List.mem_append.1 hr).elim (fun h => dOk_small (hs r h)) (fun h => by rw [List.mem_singleton.1 h]; exact hd)⟩
 have := (rowsOk_all h).2 x (List.mem_append.2 (.inr List.mem_cons_self))
 rw [hx] at this; cases this
theorem RowsD.good {l : List Rw} (hl : l.length ≤ 10) (h : ∀ r ∈ l, small r) : RowsD l := ⟨by omega, fun _ => ⟨h, hl⟩, fun r hr => dOk_small (h r hr)⟩
def RowsP (w0 : World) (rb : Nat) (s : List Int) (p : Int) (W : World) (e : Ending) (W' : World) : Prop := ∃ (v : Value) (l : List Rw), e = .returned v ∧ kRw.R 102 W' W.heap.size okT v l ∧ RowsD l ∧ Adv w0 rb s p 130 W W'
theorem RowsP.mk {w0 : World} {rb : Nat} {s : List Int} {p : Int} {W W' : World} {v : Value} {l : List Rw} (h : kRw.R 102 W' W.heap.size okT v l) (hd : RowsD l) (ha : Adv w0 rb s p 130 W W') : RowsP w0 rb s p W (.returned v) W' := ⟨v, l, rfl, h, hd, ha⟩
theorem badK (x : Rw) {k : Int} (h : k = -1 ∨ k = 4) : rowOk ⟨k, x.f1, x.f2, x.f3⟩ = false := by
 rcases h with rfl | rfl <;> simp [rowOk]
theorem badV (x : Rw) {k : Int} (h : k = -1 ∨ k = 100) : rowOk ⟨x.f0, k, x.f2, x.f3⟩ = false := by
 rcases h with rfl | rfl <;> simp [rowOk]
theorem badD (x : Rw) {k : Int} (h : k = -100000 ∨ k = 100000) : rowOk ⟨x.f0, x.f1, x.f2, k⟩ = false := by
 rcases h with rfl | rfl <;> simp [rowOk]
theorem badT (x : Rw) (b : Int) : rowOk ⟨x.f0, x.f1, ⟨-1, b⟩, x.f3⟩ = false := by simp [rowOk, tOk]
theorem badT2 (x : Rw) (a : Int) : rowOk ⟨x.f0, x.f1, ⟨a, 8⟩, x.f3⟩ = false := by simp [rowOk, tOk]
set_option maxRecDepth 100000 in
set_option maxHeartbeats 4000000 in
theorem spec_l71Spoil {w0 W : World} {rb : Nat} {s : List Int} {p : Int} (hS : Aside0 (RS s)) (h : Rd w0 rb s p W) (hp : p ≤ 500000) (v : Value) (l : List Rw) (hl : Sl kRw W v l) (hrb : kRw.R 102 W w0.heap.size (fun q => q ≠ rb) v l) (hn : l.length ≤ 10) (hsm0 : ∀ r ∈ l, small r) :
  Calls Try.prog 131 #[.pointer (some ⟨rb, 0, none⟩), v] W (fun e W' => ∃ (v : Value) (l : List Rw), e = .returned v ∧ kRw.R 102 W' W.heap.size okT v l ∧ RowsD l ∧ Adv w0 rb s p 10 W W') := by
 have hbl := h.lt
 have hge := h.ge
 have hbs := h.bel.size
 have hnn := h.nn
 have HR := Aside0.mk h
 have HL := Aside0.mk hrb
 have HSM := Aside0.mk hsm0
 have HV := Aside0.mk (show W.grownBy W (some rb) from ⟨rfl, rfl, rfl, Nat.le_refl _, fun _ _ _ => rfl⟩)
 clear h hrb hl hsm0
 go_enter Try.func131, Try.ntmps131
 go_upto_region 2 with (go_at_call 165; ((with_reducible refine (spec_l71Row hS HR.out (by omega)).mono ?_); rintro e wa ⟨x, rfl, hx, hadv⟩; obtain ⟨p1, g0, g1, hr1, hg1⟩ := hadv; replace HL := Aside0.mk (R_pick HL.out hg1 (fun q hq => hq)); replace HR := Aside0.mk hr1; replace HV := Aside0.mk hg1; have HDX := Aside0.mk (dOk_small hx); clear hr1 hg1 hx))
 have hwa := HV.out.size
 refine name_world fun W1 hW => ?_
 have B0 : W1.heap[wa.heap.size]? = some (.cells #[.int .i64 x.f0, .int .i64 x.f1, .int .i64 x.f2.f0, .int .i64 x.f2.f1, .int .i64 x.f3] 102 (0, 0)) := by rw [hW]; exact blk_new wa _
 have hb1 : Below wa.heap.size wa W1 := by rw [hW]; repeat (first | exact Below.refl _ _ | apply below_alloc | refine below_set ?_ (by simp))
 clear hW
 generalize hX : wa.heap.size = X at B0 ⊢
 have hXl : W.heap.size ≤ X := by omega
 have hrX : rb ≠ X := by omega
 replace HL := Aside0.mk (R_new (ok' := fun q => q ≠ rb ∧ q ≠ X) HL.out (X := X) (by omega) (fun q h1 h2 => ⟨h1, by omega⟩))
 replace HL := Aside0.mk (Kd.R_below HL.out hb1)
 replace HR := Aside0.mk (HR.out.below hb1)
 replace HV := Aside0.mk (grownBy_after HV.out hb1)
 have HX := Aside0.mk B0
 clear B0 hX hb1 hwa
 go_upto_block 0 with (go_at_call 69; ((with_reducible refine (spec_pick hS.out HR.out (by omega) _ (by omega) (by omega)).mono ?_); rintro e w' ⟨t, rfl, t0, t1, hr, hg⟩; replace HX := Aside0.mk (blk_grown HX.out hg (by intro e; have := Option.some.inj e; omega)); replace HL := Aside0.mk (R_pick HL.out hg (fun q hq => by first | exact hq | exact hq.1 | exact hq.2)); replace HV := Aside0.mk (gthen HV.out hg); replace HR := Aside0.mk hr; clear hr hg))
 go_cut [] (fun wc => ∃ (y : Rw) (p2 : Int), rowOk y = false ∧ dOk y ∧ p1 ≤ p2 ∧ p2 ≤ p1 + 2 ∧ Aside0 (wc.heap[X]? = some (.cells #[.int .i64 y.f0, .int .i64 y.f1, .int .i64 y.f2.f0, .int .i64 y.f2.f1, .int .i64 y.f3] 102 (0, 0))) ∧ Aside0 (kRw.R 102 wc w0.heap.size (fun q => q ≠ rb ∧ q ≠ X) v l) ∧ Aside0 (Rd w0 rb s p2 wc) ∧ Aside0 (W.grownBy wc (some rb)))
 case first =>
  rcases (show t = 0 ∨ t = 1 ∨ t = 2 ∨ t = 3 ∨ t = 4 by omega) with rfl | rfl | rfl | rfl | rfl
  ·go_wp2_with (go_at_call 69; ((with_reducible refine (spec_pick hS.out (HR.out.alloc (.cells #[.int .i64 (-1), .int .i64 4] 3)) (by omega) 2 (by omega) (by omega)).mono ?_); rintro e w3 ⟨j, rfl, j0, j1, hr, hg⟩; obtain ⟨m, rfl⟩ := Int.eq_ofNat_of_zero_le j0; obtain ⟨z, hz, hzz⟩ := lit2 (blk_grown (blk_new w' (.cells #[.int .i64 (-1), .int .i64 4] 3)) hg (by have := HR.out.lt; intro e; have := Option.some.inj e; omega)) m (by omega); have HX3 := Aside0.mk (blk_grown (blk_alloc HX.out (.cells #[.int .i64 (-1), .int .i64 4] 3)) hg (by intro e; exact hrX (Option.some.inj e).symm)); have HL3 := Aside0.mk (R_pick (R_alloc HL.out (.cells #[.int .i64 (-1), .int .i64 4] 3)) hg (fun q hq => hq.1)); have HV3 := Aside0.mk (gthen (grownBy_after HV.out (below_alloc (Below.refl _ _) (.cells #[.int .i64 (-1), .int .i64 4] 3))) hg); have HR3 := Aside0.mk hr; have kx : w3.cell? ⟨X, 0, none⟩ = some (.int .i64 x.f0) := blk_cell HX3.out 0; have kf := blk_fz HX3.out 0; clear hr hg))
   go_meet
   case rel => exact ⟨⟨z, x.f1, x.f2, x.f3⟩, p1 + 1 + 1, badK x hzz, HDX.out, by omega, by omega, ⟨by simpa using blk_set HX3.out 0 (.int .i64 z)⟩, ⟨Kd.R_far HL3.out (fun q hq => hq.2) _⟩, ⟨HR3.out.far hrX (by show w0.heap.size ≤ X; omega) _⟩, ⟨set_grownX (by show W.heap.size ≤ X; exact hXl) HV3.out _⟩⟩
  ·go_wp2_with (go_at_call 69; ((with_reducible refine (spec_pick hS.out (HR.out.alloc (.cells #[.int .i64 (-1), .int .i64 100] 3)) (by omega) 2 (by omega) (by omega)).mono ?_); rintro e w3 ⟨j, rfl, j0, j1, hr, hg⟩; obtain ⟨m, rfl⟩ := Int.eq_ofNat_of_zero_le j0; obtain ⟨z, hz, hzz⟩ := lit2 (blk_grown (blk_new w' (.cells #[.int .i64 (-1), .int .i64 100] 3)) hg (by have := HR.out.lt; intro e; have := Option.some.inj e; omega)) m (by omega); have HX3 := Aside0.mk (blk_grown (blk_alloc HX.out (.cells #[.int .i64 (-1), .int .i64 100] 3)) hg (by intro e; exact hrX (Option.some.inj e).symm)); have HL3 := Aside0.mk (R_pick (R_alloc HL.out (.cells #[.int .i64 (-1), .int .i64 100] 3)) hg (fun q hq => hq.1)); have HV3 := Aside0.mk (gthen (grownBy_after HV.out (below_alloc (Below.refl _ _) (.cells #[.int .i64 (-1), .int .i64 100] 3))) hg); have HR3 := Aside0.mk hr; have kx : w3.cell? ⟨X, 1, none⟩ = some (.int .i64 x.f1) := blk_cell HX3.out 1; have kf := blk_fz HX3.out 1; clear hr hg))
   go_meet
   case rel => exact ⟨⟨x.f0, z, x.f2, x.f3⟩, p1 + 1 + 1, badV x hzz, HDX.out, by omega, by omega, ⟨by simpa using blk_set HX3.out 1 (.int .i64 z)⟩, ⟨Kd.R_far HL3.out (fun q hq => hq.2) _⟩, ⟨HR3.out.far hrX (by show w0.heap.size ≤ X; omega) _⟩, ⟨set_grownX (by show W.heap.size ≤ X; exact hXl) HV3.out _⟩⟩
  ·have kx2 : w'.cell? ⟨X, 2, none⟩ = some (.int .i64 x.f2.f0) := blk_cell HX.out 2
   have kx3 : w'.cell? ⟨X, 3, none⟩ = some (.int .i64 x.f2.f1) := blk_cell HX.out 3
   have kf2 := blk_fz HX.out 2
   have kf3 := blk_fz HX.out 3
   go_wp2
   go_meet
   case rel => exact ⟨⟨x.f0, x.f1, ⟨-1, 0⟩, x.f3⟩, p1 + 1, badT x 0, HDX.out, by omega, by omega, ⟨by simpa using blk_set (blk_set HX.out 2 (.int .i64 (-1))) 3 (.int .i64 0)⟩, ⟨Kd.R_far (Kd.R_far HL.out (fun q hq => hq.2) _) (fun q hq => hq.2) _⟩, ⟨(HR.out.far hrX (by show w0.heap.size ≤ X; omega) _).far hrX (by show w0.heap.size ≤ X; omega) _⟩, ⟨set_grownX (by show W.heap.size ≤ X; exact hXl) (set_grownX (by show W.heap.size ≤ X; exact hXl) HV.out _) _⟩⟩
  ·go_wp2_with (go_at_call 69; ((with_reducible refine (spec_pick hS.out (HR.out.alloc (.cells #[.int .i64 (-100000), .int .i64 100000] 3)) (by omega) 2 (by omega) (by omega)).mono ?_); rintro e w3 ⟨j, rfl, j0, j1, hr, hg⟩; obtain ⟨m, rfl⟩ := Int.eq_ofNat_of_zero_le j0; obtain ⟨z, hz, hzz⟩ := lit2 (blk_grown (blk_new w' (.cells #[.int .i64 (-100000), .int .i64 100000] 3)) hg (by have := HR.out.lt; intro e; have := Option.some.inj e; omega)) m (by omega); have HX3 := Aside0.mk (blk_grown (blk_alloc HX.out (.cells #[.int .i64 (-100000), .int .i64 100000] 3)) hg (by intro e; exact hrX (Option.some.inj e).symm)); have HL3 := Aside0.mk (R_pick (R_alloc HL.out (.cells #[.int .i64 (-100000), .int .i64 100000] 3)) hg (fun q hq => hq.1)); have HV3 := Aside0.mk (gthen (grownBy_after HV.out (below_alloc (Below.refl _ _) (.cells #[.int .i64 (-100000), .int .i64 100000] 3))) hg); have HR3 := Aside0.mk hr; have kx : w3.cell? ⟨X, 4, none⟩ = some (.int .i64 x.f3) := blk_cell HX3.out 4; have kf := blk_fz HX3.out 4; clear hr hg))
   go_meet
   case rel => exact ⟨⟨x.f0, x.f1, x.f2, z⟩, p1 + 1 + 1, badD x hzz, .inr hzz, by omega, by omega, ⟨by simpa using blk_set HX3.out 4 (.int .i64 z)⟩, ⟨Kd.R_far HL3.out (fun q hq => hq.2) _⟩, ⟨HR3.out.far hrX (by show w0.heap.size ≤ X; omega) _⟩, ⟨set_grownX (by show W.heap.size ≤ X; exact hXl) HV3.out _⟩⟩
  ·have kx3 : w'.cell? ⟨X, 3, none⟩ = some (.int .i64 x.f2.f1) := blk_cell HX.out 3
   have kf3 := blk_fz HX.out 3
   go_wp2
   go_meet
   case rel => exact ⟨⟨x.f0, x.f1, ⟨x.f2.f0, 8⟩, x.f3⟩, p1 + 1, badT2 x _, HDX.out, by omega, by omega, ⟨by simpa using blk_set HX.out 3 (.int .i64 8)⟩, ⟨Kd.R_far HL.out (fun q hq => hq.2) _⟩, ⟨HR.out.far hrX (by show w0.heap.size ≤ X; omega) _⟩, ⟨set_grownX (by show W.heap.size ≤ X; exact hXl) HV.out _⟩⟩
 case rest =>
  clear HX HL HR HV
  obtain ⟨y, p2, hy, hdy, hp2, hp3, HX, HL, HR, HV⟩ := hcut
  have HDY := Aside0.mk hdy
  clear hdy
  go_at_K
  go_upto_region 12 with fail
  have c0 := blk_cell HX.out 0
  have c1 := blk_cell HX.out 1
  have c2 := blk_cell HX.out 2
  have c3 := blk_cell HX.out 3
  have c4 := blk_cell HX.out 4
  obtain ⟨Al, cl, rfl, hcl, hCl⟩ := Sl.of_R HL.out
  have hml := Kd.C_max hCl
  clear hCl
  have hwc := HV.out.size
  have hrw := HR.out.lt
  have hXw := blk_lt HX.out
  have HE1 := Aside0.mk (R_none (d := kRw) (e := 102) (w := wc.drew.alloc (.cells #[] 102)) (base := W.heap.size) (ok := fun q => q ≠ rb ∧ q ≠ X) (blk_new wc.drew (.cells #[] 102)) (by show W.heap.size ≤ wc.heap.size; omega) ⟨by show wc.heap.size ≠ rb; omega, by show wc.heap.size ≠ X; omega⟩)
  have HE2 := Aside0.mk (R_none (d := kRw) (e := 102) (w := (wc.drew.alloc (.cells #[] 102)).alloc (.cells #[.int .i64 y.f0, .int .i64 y.f1, .int .i64 y.f2.f0, .int .i64 y.f2.f1, .int .i64 y.f3] 102)) (base := W.heap.size) (ok := fun q => q ≠ rb ∧ q ≠ X) (blk_alloc (blk_new wc.drew (.cells #[] 102)) (.cells #[.int .i64 y.f0, .int .i64 y.f1, .int .i64 y.f2.f0, .int .i64 y.f2.f1, .int .i64 y.f3] 102)) (by show W.heap.size ≤ wc.heap.size; omega) ⟨by show wc.heap.size ≠ rb; omega, by show wc.heap.size ≠ X; omega⟩)
  have HE3 := Aside0.mk (R_none (d := kRw) (e := 102) (w := (wc.drew.alloc (.cells #[.int .i64 y.f0, .int .i64 y.f1, .int .i64 y.f2.f0, .int .i64 y.f2.f1, .int .i64 y.f3] 102)).alloc (.cells #[] 102)) (base := W.heap.size) (ok := fun q => q ≠ rb ∧ q ≠ X) (blk_two wc.drew (.cells #[.int .i64 y.f0, .int .i64 y.f1, .int .i64 y.f2.f0, .int .i64 y.f2.f1, .int .i64 y.f3] 102) (.cells #[] 102)) (by show W.heap.size ≤ wc.heap.size + 1; omega) ⟨by show wc.heap.size + 1 ≠ rb; omega, by show wc.heap.size + 1 ≠ X; omega⟩)
  have HL1 := Aside0.mk ((Sl.of_R HL.out).below (below_alloc (below_drew (Below.refl _ _)) (.cells #[] 102)))
  have HL2 := Aside0.mk ((Sl.of_R HL.out).below (below_alloc (below_alloc (below_drew (Below.refl _ _)) (.cells #[] 102)) (.cells #[.int .i64 y.f0, .int .i64 y.f1, .int .i64 y.f2.f0, .int .i64 y.f2.f1, .int .i64 y.f3] 102)))
  have HL3 := Aside0.mk ((Sl.of_R HL.out).below (below_alloc (below_alloc (below_drew (Below.refl _ _)) (.cells #[.int .i64 y.f0, .int .i64 y.f1, .int .i64 y.f2.f0, .int .i64 y.f2.f1, .int .i64 y.f3] 102)) (.cells #[] 102)))
  have HX1_ := Aside0.mk (blk_alloc (show wc.drew.heap[X]? = _ from HX.out) (.cells #[] 102))
  have HX2_ := Aside0.mk (blk_alloc (blk_alloc (show wc.drew.heap[X]? = _ from HX.out) (.cells #[] 102)) (.cells #[.int .i64 y.f0, .int .i64 y.f1, .int .i64 y.f2.f0, .int .i64 y.f2.f1, .int .i64 y.f3] 102))
  have HX3_ := Aside0.mk (blk_alloc (blk_alloc (show wc.drew.heap[X]? = _ from HX.out) (.cells #[.int .i64 y.f0, .int .i64 y.f1, .int .i64 y.f2.f0, .int .i64 y.f2.f1, .int .i64 y.f3] 102)) (.cells #[] 102))
  have HR2_ := Aside0.mk (blk_two wc.drew (.cells #[] 102) (.cells #[.int .i64 y.f0, .int .i64 y.f1, .int .i64 y.f2.f0, .int .i64 y.f2.f1, .int .i64 y.f3] 102))
  have HR3_ := Aside0.mk (blk_alloc (blk_new wc.drew (.cells #[.int .i64 y.f0, .int .i64 y.f1, .int .i64 y.f2.f0, .int .i64 y.f2.f1, .int .i64 y.f3] 102)) (.cells #[] 102))
  have hsw : wc.drew.heap.size = wc.heap.size := rfl
  clear HX
  go_region_held3 (fun w' => w'.cell? ⟨X, 0, none⟩ = some (.int .i64 y.f0) ∧ w'.cell? ⟨X, 1, none⟩ = some (.int .i64 y.f1) ∧ w'.cell? ⟨X, 2, none⟩ = some (.int .i64 y.f2.f0) ∧ w'.cell? ⟨X, 3, none⟩ = some (.int .i64 y.f2.f1) ∧ w'.cell? ⟨X, 4, none⟩ = some (.int .i64 y.f3))
   (first | exact ⟨c0, c1, c2, c3, c4⟩ | exact ⟨blk_cell HX2.out 0, blk_cell HX2.out 1, blk_cell HX2.out 2, blk_cell HX2.out 3, blk_cell HX2.out 4⟩ | exact ⟨blk_cell HX1.out 0, blk_cell HX1.out 1, blk_cell HX1.out 2, blk_cell HX1.out 3, blk_cell HX1.out 4⟩ | exact ⟨pw_cell_below (below_alloc (Below.refl _ _) _) (blk_cell HX1.out 0), pw_cell_below (below_alloc (Below.refl _ _) _) (blk_cell HX1.out 1), pw_cell_below (below_alloc (Below.refl _ _) _) (blk_cell HX1.out 2), pw_cell_below (below_alloc (Below.refl _ _) _) (blk_cell HX1.out 3), pw_cell_below (below_alloc (Below.refl _ _) _) (blk_cell HX1.out 4)⟩ | exact ⟨pw_cell_below (by repeat (first | exact Below.refl _ _ | apply below_alloc | apply below_drew)) c0, pw_cell_below (by repeat (first | exact Below.refl _ _ | apply below_alloc | apply below_drew)) c1, pw_cell_below (by repeat (first | exact Below.refl _ _ | apply below_alloc | apply below_drew)) c2, pw_cell_below (by repeat (first | exact Below.refl _ _ | apply below_alloc | apply below_drew)) c3, pw_cell_below (by repeat (first | exact Below.refl _ _ | apply below_alloc | apply below_drew)) c4⟩)
   (first
    | (refine stepsRw (W := wc.drew.alloc (.cells #[] 102)) (base := W.heap.size) (xs := []) (ys := l) (ok := fun q => q ≠ rb ∧ q ≠ X) rfl rfl HL1.out HE1.out (fun q hq => by have h7 : wc.heap.size + 1 ≤ q := (by simp at hq; omega); exact ⟨by omega, by omega⟩) (by simp; omega) (by simp; omega) ?_; intro v1 w1 hr1 hb1 hg1; have HO1 := Aside0.mk hr1; have HB1 := Aside0.mk hb1; have hsz1 : wc.heap.size + 1 ≤ w1.heap.size := (by have := hg1.size; simp at this; omega); have HX1 := Aside0.mk (blk_app HE1.out hg1 HX1_.out (fun e => e.2 rfl)); clear hr1 hb1 hg1)
    | (refine stepsRw (W := (wc.drew.alloc (.cells #[] 102)).alloc (.cells #[.int .i64 y.f0, .int .i64 y.f1, .int .i64 y.f2.f0, .int .i64 y.f2.f1, .int .i64 y.f3] 102)) (base := W.heap.size) (xs := []) (ys := l) (ok := fun q => q ≠ rb ∧ q ≠ X) rfl rfl HL2.out HE2.out (fun q hq => by have h7 : wc.heap.size + 1 ≤ q := (by simp at hq; omega); exact ⟨by omega, by omega⟩) (by simp; omega) (by simp; omega) ?_; intro v1 w1 hr1 hb1 hg1; have HO1 := Aside0.mk hr1; have HB1 := Aside0.mk hb1; have hsz1 : wc.heap.size + 1 ≤ w1.heap.size := (by have := hg1.size; simp at this; omega); have HX1 := Aside0.mk (blk_app HE2.out hg1 HX2_.out (fun e => e.2 rfl)); have HRS := Aside0.mk (one_Sl (blk_grown HR2_.out hg1 (by show some (wc.heap.size + 1) ≠ some wc.heap.size; simp))); clear hr1 hb1 hg1)
    | (refine stepsRw (W := (wc.drew.alloc (.cells #[.int .i64 y.f0, .int .i64 y.f1, .int .i64 y.f2.f0, .int .i64 y.f2.f1, .int .i64 y.f3] 102)).alloc (.cells #[] 102)) (base := W.heap.size) (xs := []) (ys := l) (ok := fun q => q ≠ rb ∧ q ≠ X) rfl rfl HL3.out HE3.out (fun q hq => by have h7 : wc.heap.size + 1 ≤ q := (by simp at hq; omega); exact ⟨by omega, by omega⟩) (by simp; omega) (by simp; omega) ?_; intro v1 w1 hr1 hb1 hg1; have HO1 := Aside0.mk hr1; have HB1 := Aside0.mk hb1; have hsz1 : wc.heap.size + 1 ≤ w1.heap.size := (by have := hg1.size; simp at this; omega); have HX1 := Aside0.mk (blk_app HE3.out hg1 HX3_.out (fun e => e.2 rfl)); have HRS := Aside0.mk (one_Sl (blk_grown HR3_.out hg1 (by show some wc.heap.size ≠ some (wc.heap.size + 1); simp))); clear hr1 hb1 hg1)
    | (refine stepRw (W := w1) (base := W.heap.size) (xs := [] ++ l) (ok := fun q => q ≠ rb ∧ q ≠ X) rfl rfl rfl HO1.out (fun q hq => ⟨by omega, by omega⟩) (by omega) (by simp; omega) ?_; intro v2 w2 hr1 hb1 hg1; have HO2 := Aside0.mk hr1; have HB2 := Aside0.mk hb1; have HX2 := Aside0.mk (blk_app HO1.out hg1 HX1.out (fun e => e.2 rfl)); clear hr1 hb1 hg1)
    | (refine stepsRw (W := w1) (base := W.heap.size) (xs := [] ++ l) (ys := [y]) (ok := fun q => q ≠ rb ∧ q ≠ X) rfl rfl HRS.out HO1.out (fun q hq => ⟨by omega, by omega⟩) (by omega) (by simp; omega) ?_; intro v2 w2 hr1 hb1 hg1; have HO2 := Aside0.mk hr1; have HB2 := Aside0.mk hb1; have HX2 := Aside0.mk (blk_app HO1.out hg1 HX1.out (fun e => e.2 rfl)); clear hr1 hb1 hg1))
  all_goals
   go_wp2
   go_ret
  all_goals
   refine ⟨_, _, rfl, Kd.R_mono HO2.out (fun _ _ => trivial), RowsD.bad (by simpa using hn) hy (by simpa using HSM.out) HDY.out, p2, by omega, by omega, Rd.belowB (Rd.belowB ?_ HB1.out hbl) HB2.out hbl, gthenB (gthenB (grownBy_after HV.out ?_) HB1.out) HB2.out⟩
   ·exact HR.out.below (by repeat (first | exact Below.refl _ _ | apply below_alloc | apply below_drew))
   ·(repeat (first | exact Below.refl _ _ | apply below_alloc | apply below_drew))
end Go.Proofs.Ytkdendlgaaimbaa.X
namespace Go.Proofs.Ytkdendlgaaimbaa.X
open Go.RowKit Go.Proofs.YtkdendlgaaimbaaW.PrintWords
set_option linter.unusedVariables false
set_option linter.unusedSimpArgs false
set_option maxRecDepth 100000 in
set_option maxHeartbeats 2000000 in
theorem spec_l71Any {w0 W : World} {rb : Nat} {s : List Int} {p : Int} (hS : Aside0 (RS s)) (h : Rd w0 rb s p W) (hp : p ≤ 400000) :
  Calls Try.prog 74 #[.pointer (some ⟨rb, 0, none⟩)] W (RowsP w0 rb s p W) := by
 have hbl := h.lt
 have hbs := h.bel.size
 have hnn := h.nn
 have C1 := spec_l71Rows hS h (by omega) 10 (by omega)
 rw [show ((10 : Nat) : Int) = 10 from rfl] at C1
 have HR := Aside0.mk h
 have HV := Aside0.mk (show W.grownBy W (some rb) from ⟨rfl, rfl, rfl, Nat.le_refl _, fun _ _ _ => rfl⟩)
 clear h
 go_enter Try.func74, Try.ntmps74
 go_upto_region 2 with (go_at_call 127; ((with_reducible refine C1.mono ?_); rintro e wa ⟨va, la, rfl, hra, hsm, hla, hadv⟩; have HLA := Aside0.mk hsm; have HO := Aside0.mk (R_off hra hbl); obtain ⟨p1, g0, g1, hr1, hg1⟩ := hadv; replace HR := Aside0.mk hr1; replace HV := Aside0.mk hg1; clear hr1 hg1 hra hsm))
 clear C1
 go_upto_if 8 with (go_at_call 69; ((with_reducible refine (spec_pick hS.out HR.out (by omega) 14 (by omega) (by omega)).mono ?_); rintro e w' ⟨t, rfl, t0, t1, hr, hg⟩; replace HO := Aside0.mk (R_pick HO.out hg (fun q hq => by first | exact hq | exact hq.1 | exact hq.2)); replace HV := Aside0.mk (gthen HV.out hg); replace HR := Aside0.mk hr; clear hr hg))
 by_cases ht0 : t = 0
 ·have htb : (t == 0) = true := by rw [ht0]; rfl
  have hgs := HV.out.size
  go_wp2_with (go_at_call 131; ((with_reducible refine (spec_l71Spoil hS HR.out (by omega) va la (Sl.of_R HO.out) (Kd.R_lower HO.out (by omega)) hla HLA.out).mono ?_); rintro e w3 ⟨v2, l2, rfl, hr2, hd2, p3, g3, g4, hrd, hg⟩; have HO2 := Aside0.mk (Kd.R_lower hr2 hgs); have HD := Aside0.mk hd2; have HR3 := Aside0.mk hrd; have HV3 := Aside0.mk (gthen HV.out hg); clear hr2 hd2 hrd hg))
  go_ret
  exact RowsP.mk HO2.out HD.out ⟨p3, by omega, by omega, HR3.out, HV3.out⟩
 ·have htb : (t == 0) = false := by simp [ht0]
  go_wp2
  go_ret
  exact RowsP.mk (Kd.R_mono HO.out (fun _ _ => trivial)) (RowsD.good hla HLA.out) ⟨p1 + 1, by omega, by omega, HR.out, HV.out⟩
end Go.Proofs.Ytkdendlgaaimbaa.X
namespace Go.Proofs.Ytkdendlgaaimbaa.X
open Go.RowKit Go.Proofs.YtkdendlgaaimbaaW.PrintWords
set_option linter.unusedVariables false
set_option linter.unusedSimpArgs false
end Go.Proofs.Ytkdendlgaaimbaa.X
namespace Go.Proofs.Ytkdendlgaaimbaa.X
open Go.RowKit Go.Proofs.YtkdendlgaaimbaaW.PrintWords
set_option linter.unusedVariables false
set_option linter.unusedSimpArgs false
def tNear (t : Tm) : Prop := -1 ≤ t.f0 ∧ t.f0 ≤ 8 ∧ -1 ≤ t.f1 ∧ t.f1 ≤ 8
set_option maxRecDepth 100000 in
set_option maxHeartbeats 4000000 in
theorem spec_l71Odd {w0 W : World} {rb : Nat} {s : List Int} {p : Int} (hS : Aside0 (RS s)) (h : Rd w0 rb s p W) (hp : p ≤ 800000) :
  Calls Try.prog 88 #[.pointer (some ⟨rb, 0, none⟩)] W fun e W' => ∃ t : Tm, e = .returned (.agg #[.int .i64 t.f0, .int .i64 t.f1]) ∧ tNear t ∧ Adv w0 rb s p 6 W W' := by
 have hbl := h.lt
 have hge := h.ge
 have hbs := h.bel.size
 have hnn := h.nn
 have HR := Aside0.mk (h.alloc (.cells #[.int .i64 0, .int .i64 0] 43))
 have HV := Aside0.mk (alloc_grown W (.cells #[.int .i64 0, .int .i64 0] 43) (some rb))
 have HC := Aside0.mk (blk_new W (.cells #[.int .i64 0, .int .i64 0] 43))
 clear h
 go_enter Try.func88, Try.ntmps88
 go_upto_region 2 with (go_at_call 139; ((with_reducible refine (spec_l71Time hS HR.out (by omega)).mono ?_); rintro e wa ⟨a, b, rfl, ⟨a0, a1, b0, b1⟩, p1, g0, g1, hr1, hg1⟩; replace HC := Aside0.mk (blk_grown HC.out hg1 (by intro e; have := Option.some.inj e; omega)); replace HR := Aside0.mk hr1; replace HV := Aside0.mk (gthen HV.out hg1); clear hr1 hg1))
 have hwa := blk_lt HC.out
 refine name_world fun W1 hW => ?_
 have B0 : W1.heap[wa.heap.size]? = some (.cells #[.int .i64 a, .int .i64 b] 43 (0, 0)) := by rw [hW]; exact blk_new wa _
 have hb1 : Below wa.heap.size wa W1 := by rw [hW]; repeat (first | exact Below.refl _ _ | apply below_alloc | refine below_set ?_ (by simp))
 clear hW
 generalize hX : wa.heap.size = X at B0 ⊢
 have hXl : W.heap.size < X := by omega
 have hrX : rb ≠ X := by omega
 replace HC := Aside0.mk (blk_below HC.out hb1)
 replace HR := Aside0.mk (HR.out.below hb1)
 replace HV := Aside0.mk (grownBy_after HV.out hb1)
 have HX := Aside0.mk B0
 clear B0 hX hb1 hwa
 go_upto_block 0 with (go_at_call 69; ((with_reducible refine (spec_pick hS.out HR.out (by omega) 16 (by omega) (by omega)).mono ?_); rintro e w' ⟨t, rfl, t0, t1, hr, hg⟩; replace HX := Aside0.mk (blk_grown HX.out hg (by intro e; have := Option.some.inj e; omega)); replace HC := Aside0.mk (blk_grown HC.out hg (by intro e; have := Option.some.inj e; omega)); replace HV := Aside0.mk (gthen HV.out hg); replace HR := Aside0.mk hr; clear hr hg))
 go_cut [] (fun wc => ∃ (z : Tm) (p2 : Int), tNear z ∧ p1 ≤ p2 ∧ p2 ≤ p1 + 2 ∧ Aside0 (wc.heap[X]? = some (.cells #[.int .i64 z.f0, .int .i64 z.f1] 43 (0, 0))) ∧ Aside0 (wc.heap[W.heap.size]? = some (.cells #[.int .i64 0, .int .i64 0] 43 (0, 0))) ∧ Aside0 (Rd w0 rb s p2 wc) ∧ Aside0 (W.grownBy wc (some rb)))
 case first =>
  by_cases ht0 : t = 0
  ·subst ht0
   go_wp2_with (go_at_call 69; ((with_reducible refine (spec_pick hS.out (HR.out.alloc (.cells #[.int .i64 (-1), .int .i64 8] 3)) (by omega) 2 (by omega) (by omega)).mono ?_); rintro e w3 ⟨j, rfl, j0, j1, hr, hg⟩; obtain ⟨m, rfl⟩ := Int.eq_ofNat_of_zero_le j0; obtain ⟨z, hz, hzz⟩ := lit2 (blk_grown (blk_new w' (.cells #[.int .i64 (-1), .int .i64 8] 3)) hg (by have := HR.out.lt; intro e; have := Option.some.inj e; omega)) m (by omega); have HX3 := Aside0.mk (blk_grown (blk_alloc HX.out (.cells #[.int .i64 (-1), .int .i64 8] 3)) hg (by intro e; exact hrX (Option.some.inj e).symm)); have HC3 := Aside0.mk (blk_grown (blk_alloc HC.out (.cells #[.int .i64 (-1), .int .i64 8] 3)) hg (by intro e; have := Option.some.inj e; omega)); have HV3 := Aside0.mk (gthen (grownBy_after HV.out (below_alloc (Below.refl _ _) (.cells #[.int .i64 (-1), .int .i64 8] 3))) hg); have HR3 := Aside0.mk hr; have kx : w3.cell? ⟨X, 0, none⟩ = some (.int .i64 a) := blk_cell HX3.out 0; have kf := blk_fz HX3.out 0; clear hr hg))
   go_meet
   case rel => exact ⟨⟨z, b⟩, p1 + 1 + 1, by unfold tNear; rcases hzz with rfl | rfl <;> (simp only; omega), by omega, by omega, ⟨by simpa using blk_set HX3.out 0 (.int .i64 z)⟩, ⟨blk_far HC3.out (by show W.heap.size ≠ X; omega) _⟩, ⟨HR3.out.far hrX (by show w0.heap.size ≤ X; omega) _⟩, ⟨set_grownX (by show W.heap.size ≤ X; omega) HV3.out _⟩⟩
  ·by_cases ht1 : t = 1
   ·subst ht1
    go_wp2_with (go_at_call 69; ((with_reducible refine (spec_pick hS.out (HR.out.alloc (.cells #[.int .i64 (-1), .int .i64 8] 3)) (by omega) 2 (by omega) (by omega)).mono ?_); rintro e w3 ⟨j, rfl, j0, j1, hr, hg⟩; obtain ⟨m, rfl⟩ := Int.eq_ofNat_of_zero_le j0; obtain ⟨z, hz, hzz⟩ := lit2 (blk_grown (blk_new w' (.cells #[.int .i64 (-1), .int .i64 8] 3)) hg (by have := HR.out.lt; intro e; have := Option.some.inj e; omega)) m (by omega); have HX3 := Aside0.mk (blk_grown (blk_alloc HX.out (.cells #[.int .i64 (-1), .int .i64 8] 3)) hg (by intro e; exact hrX (Option.some.inj e).symm)); have HC3 := Aside0.mk (blk_grown (blk_alloc HC.out (.cells #[.int .i64 (-1), .int .i64 8] 3)) hg (by intro e; have := Option.some.inj e; omega)); have HV3 := Aside0.mk (gthen (grownBy_after HV.out (below_alloc (Below.refl _ _) (.cells #[.int .i64 (-1), .int .i64 8] 3))) hg); have HR3 := Aside0.mk hr; have kx : w3.cell? ⟨X, 1, none⟩ = some (.int .i64 b) := blk_cell HX3.out 1; have kf := blk_fz HX3.out 1; clear hr hg))
    go_meet
    case rel => exact ⟨⟨a, z⟩, p1 + 1 + 1, by unfold tNear; rcases hzz with rfl | rfl <;> (simp only; omega), by omega, by omega, ⟨by simpa using blk_set HX3.out 1 (.int .i64 z)⟩, ⟨blk_far HC3.out (by show W.heap.size ≠ X; omega) _⟩, ⟨HR3.out.far hrX (by show w0.heap.size ≤ X; omega) _⟩, ⟨set_grownX (by show W.heap.size ≤ X; omega) HV3.out _⟩⟩
   ·have q0 : (t == 0) = false := by simp [ht0]
    have q1 : (t == 1) = false := by simp [ht1]
    go_wp2
    go_meet
    case rel => exact ⟨⟨a, b⟩, p1 + 1, by unfold tNear; simp only; omega, by omega, by omega, HX, HC, HR, HV⟩
 case rest =>
  clear HX HC HR HV
  obtain ⟨z, p2, hz, hp2, hp3, HX, HC, HR, HV⟩ := hcut
  have c0 := blk_cell HX.out 0
  have c1 := blk_cell HX.out 1
  have k0 := blk_cell HC.out 0
  have k1 := blk_cell HC.out 1
  have kf0 := blk_fz HC.out 0
  have kf1 := blk_fz HC.out 1
  go_at_K
  go_wp2
  refine ret_cell (p := 2) (g := W.heap.size) rfl rfl rfl (blk2 HC.out _ _) Try.underlying43 rfl (by kernel_rfl) ?_
  exact ⟨z, rfl, hz, p2, by omega, by omega, (HR.out.far (by show rb ≠ W.heap.size; omega) (by show w0.heap.size ≤ W.heap.size; omega) _).far (by show rb ≠ W.heap.size; omega) (by show w0.heap.size ≤ W.heap.size; omega) _, set_grown _ _ _ (Nat.le_refl _) (set_grown _ _ _ (Nat.le_refl _) HV.out)⟩
end Go.Proofs.Ytkdendlgaaimbaa.X
namespace Go.Proofs.Ytkdendlgaaimbaa.X
open Go.RowKit Go.Proofs.YtkdendlgaaimbaaW.PrintWords
set_option linter.unusedVariables false
set_option linter.unusedSimpArgs false
section
variable {P : Program} {ops : Array Oper} {rest : List Oper} {o : Oper} {a : Act} {Q : Exit → Act → World → Prop}
end
end Go.Proofs.Ytkdendlgaaimbaa.X
namespace Go.Proofs.Ytkdendlgaaimbaa.X
open Go.RowKit Go.Proofs.YtkdendlgaaimbaaW.PrintWords
set_option linter.unusedVariables false
set_option linter.unusedSimpArgs false
end Go.Proofs.Ytkdendlgaaimbaa.X
namespace Go.Proofs.Ytkdendlgaaimbaa.X
open Go.RowKit
set_option linter.unusedVariables false
set_option linter.unusedSimpArgs false
def inR (a : Int) : Prop := -9223372036854775808 ≤ a ∧ a < 9223372036854775808
theorem inR_wrap (a : Int) : inR (wrap64 a) := by unfold inR wrap64; omega
theorem put_inR {r : Rw} (hr : inR r.f3) : ∀ {s : List Rw}, (∀ x ∈ s, inR x.f3) → ∀ x ∈ put r s, inR x.f3
 | [], _, x, hx => by rw [put, List.mem_singleton] at hx; rw [hx]; exact hr
 | y :: s, hs, x, hx => by
  rw [put] at hx
  split at hx
  ·rcases List.mem_cons.1 hx with rfl | hx
   ·exact hr
   ·exact hs x hx
  ·split at hx
   ·rcases List.mem_cons.1 hx with rfl | hx
    ·exact inR_wrap _
    ·exact hs x (List.mem_cons_of_mem _ hx)
   ·rcases List.mem_cons.1 hx with rfl | hx
    ·exact hs _ List.mem_cons_self
    ·exact put_inR hr (fun z hz => hs z (List.mem_cons_of_mem _ hz)) x hx
theorem putAll_inR : ∀ {l s : List Rw}, (∀ x ∈ l, inR x.f3) → (∀ x ∈ s, inR x.f3) → ∀ x ∈ putAll s l, inR x.f3
 | [], s, _, hs => hs
 | r :: l, s, hl, hs => fun x hx => putAll_inR (l := l) (s := put r s) (fun y hy => hl y (List.mem_cons_of_mem _ hy)) (put_inR (hl r List.mem_cons_self) hs) x hx
theorem sum_inR {l : List Rw} (h : ∀ x ∈ l, inR x.f3) : ∀ x ∈ sum l, inR x.f3 := fun x hx =>
 putAll_inR h (fun y hy => by cases hy) x (List.mem_filter.1 hx).1
end Go.Proofs.Ytkdendlgaaimbaa.X
namespace Go.Proofs.Ytkdendlgaaimbaa.X
open Go.RowKit
set_option linter.unusedVariables false
set_option linter.unusedSimpArgs false
end Go.Proofs.Ytkdendlgaaimbaa.X
namespace Go.Proofs.Ytkdendlgaaimbaa.X
open Go.RowKit Go.Proofs.YtkdendlgaaimbaaW.PrintWords
set_option linter.unusedVariables false
set_option linter.unusedSimpArgs false
end Go.Proofs.Ytkdendlgaaimbaa.X
namespace Go.Proofs.Ytkdendlgaaimbaa.X
open Go.RowKit
set_option linter.unusedVariables false
set_option linter.unusedSimpArgs false
theorem below_trans {s t u : Tm} (h : below s t = true) (g : below t u = true) : below s u = true := by
 simp only [below, Bool.and_eq_true, decide_eq_true_eq] at h g ⊢; omega
theorem below_refl (t : Tm) : below t t = true := by simp [below]
theorem tmax_le (a b : Int) : a ≤ tmax a b ∧ b ≤ tmax a b := by unfold tmax; split <;> omega
theorem below_joinL {c d : Tm} (hc : tOk c = true) (hd : tOk d = true) : below c (tJoin c d) = true ∧ below d (tJoin c d) = true := by
 have e : tJoin c d = ⟨tmax c.f0 d.f0, tmax c.f1 d.f1⟩ := by unfold tJoin; rw [hc, hd]; rfl
 rw [e]
 simp only [below, Bool.and_eq_true, decide_eq_true_eq]
 exact ⟨⟨(tmax_le _ _).1, (tmax_le _ _).1⟩, ⟨(tmax_le _ _).2, (tmax_le _ _).2⟩⟩
end Go.Proofs.Ytkdendlgaaimbaa.X
namespace Go.Proofs.Ytkdendlgaaimbaa.X
open Go.RowKit
set_option linter.unusedVariables false
set_option linter.unusedSimpArgs false
theorem batchOk_rows {l : List Rw} (h : batchOk l = true) : rowsOk l = true := by unfold batchOk at h; rw [Bool.and_eq_true] at h; exact h.2
theorem tmin_or (a b : Int) : tmin a b ≤ a ∧ tmin a b ≤ b ∧ (tmin a b = a ∨ tmin a b = b) := by unfold tmin; split <;> omega
theorem tMeet_ok {s t : Tm} (hs : tOk s = true) (ht : tOk t = true) : tMeet s t = ⟨tmin s.f0 t.f0, tmin s.f1 t.f1⟩ := by unfold tMeet; rw [hs, ht]; rfl
theorem tMeet_in {s t : Tm} (hs : tOk s = true) (ht : tOk t = true) : tOk (tMeet s t) = true := by
 rw [tMeet_ok hs ht]
 simp only [tOk, Bool.and_eq_true, decide_eq_true_eq] at hs ht ⊢
 have h0 := tmin_or s.f0 t.f0
 have h1 := tmin_or s.f1 t.f1
 omega
theorem below_meet {c d t : Tm} (hc : tOk c = true) (hd : tOk d = true) : below t (tMeet c d) = (below t c && below t d) := by
 rw [tMeet_ok hc hd, Bool.eq_iff_iff]
 simp only [below, Bool.and_eq_true, decide_eq_true_eq]
 have h0 := tmin_or c.f0 d.f0
 have h1 := tmin_or c.f1 d.f1
 omega
theorem meet_below {c d : Tm} (hc : tOk c = true) (hd : tOk d = true) : below (tMeet c d) c = true ∧ below (tMeet c d) d = true := by
 rw [tMeet_ok hc hd]
 simp only [below, Bool.and_eq_true, decide_eq_true_eq]
 have h0 := tmin_or c.f0 d.f0
 have h1 := tmin_or c.f1 d.f1
 omega
theorem moveGo_in {t : Tm} (ht : tOk t = true) : ∀ (l : List Tm) (o : Tm), tOk o = true → (∀ s ∈ l, tOk s = true) → below t o = true →
  tOk (moveGo t o l) = true ∧ below t (moveGo t o l) = true ∧ below (moveGo t o l) o = true ∧ ∀ s ∈ l, below (moveGo t o l) (tJoin s t) = true
 | [], o, ho, _, hb => ⟨ho, hb, below_refl _, fun s hs => by cases hs⟩
 | s :: l, o, ho, hl, hb => by
  have hs := hl s List.mem_cons_self
  have hj := tJoin_okk hs ht
  have hbj := (below_joinL hs ht).2
  obtain ⟨i1, i2, i3, i4⟩ := moveGo_in ht l (tMeet o (tJoin s t)) (tMeet_in ho hj) (fun u hu => hl u (List.mem_cons_of_mem _ hu)) (by rw [below_meet ho hj, hb, hbj]; rfl)
  obtain ⟨m1, m2⟩ := meet_below ho hj
  rw [moveGo]
  refine ⟨i1, i2, below_trans i3 m1, fun u hu => ?_⟩
  rcases List.mem_cons.1 hu with rfl | hu
  ·exact below_trans i3 m2
  ·exact i4 u hu
theorem frontOk_all : ∀ {f : List Tm}, frontOk f = true → ∀ s ∈ f, tOk s = true := fun {f} h => by
 have go : ∀ (l : List Tm) (p : Tm), frontGo p l = true → ∀ s ∈ l, tOk s = true := fun l => by
  induction l with
  | nil => intro p _ s hs; cases hs
  | cons x l ih =>
   intro p hp s hs
   simp only [frontGo, Bool.and_eq_true] at hp
   rcases List.mem_cons.1 hs with rfl | hs
   ·exact hp.1.1
   ·exact ih x hp.2 s hs
 cases f with
 | nil => intro s hs; cases hs
 | cons x f =>
  intro s hs
  simp only [frontOk, Bool.and_eq_true] at h
  rcases List.mem_cons.1 hs with rfl | hs
  ·exact h.1
  ·exact go f x h.2 s hs
theorem moved_ok {f : List Tm} {s : Tm} (hf : ∀ u ∈ f, tOk u = true) (hs : tOk s = true) : tOk (moved f s) = true ∧ below s (moved f s) = true ∧ ∀ u ∈ f, below (moved f s) (tJoin u s) = true := by
 cases f with
 | nil => exact ⟨hs, below_refl _, fun u hu => by cases hu⟩
 | cons u f =>
  have hu := hf u List.mem_cons_self
  obtain ⟨i1, i2, i3, i4⟩ := moveGo_in hs (u :: f) (tJoin u s) (tJoin_okk hu hs) hf (below_joinL hu hs).2
  exact ⟨i1, i2, i4⟩
theorem mass_mv (f : List Tm) (l : List Rw) : mass (l.map (mv f)) = mass l := sg_map _ _ _
end Go.Proofs.Ytkdendlgaaimbaa.X
