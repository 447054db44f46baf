/- The draws of rows and times; more on batches. Conditions: none. -/
import Derived.Test.YtlmglffdmoklcaaXDrawRows
import Derived.Test.YtlmglffdmoklcaaXSb
import Derived.RegionTactic
import Derived.BigRegion
/-! ## DrRow2 -/
namespace Go.Proofs.Ytlmglffdmoklcaa.X
open Go.RowKit Go.Proofs.YtlmglffdmoklcaaW.PrintWords
set_option linter.unusedVariables false
set_option linter.unusedSimpArgs false

theorem lit2 {w : World} {g : Nat} {t : TypeId} {a b : Int} (h : w.heap[g]? = some (.cells #[.int .i64 a, .int .i64 b] t (0, 0))) (j : Nat) (hj : j < 2) : ∃ x, w.cell? ⟨g, j, none⟩ = some (.int .i64 x) ∧ (x = a ∨ x = b) := by
  rcases (show j = 0 ∨ j = 1 by omega) with rfl | rfl
  · exact ⟨a, blk_cell h 0, .inl rfl⟩
  · exact ⟨b, blk_cell h 1, .inr rfl⟩
section
variable {ops : Array Oper} {o : Oper} {a : Act} {Q : Exit → Act → World → Prop} {Kc : Act → World → Prop}
/-- append(out, ys...), as a step of a region that draws -/
theorem stepsRw {W : World} {base : Nat} {s x : Operand} {xs ys : List Rw} {ok : Nat → Prop} (hw : Region.wanted o (yielded ops a.tmps) = true)
    (ho : o.op = .call { callee := .builtin .append, args := #[s, x], argTypes := #[23, 23] })
    (HS : Sl kRw W (a.eval x) ys) (HO : kRw.R 69 W base ok (a.eval s) xs) (hfresh : ∀ k, W.heap.size ≤ k → ok k) (hbase : base ≤ W.heap.size) (hl : xs.length + ys.length < 3518437208000)
    (h : ∀ v1 w1, kRw.R 69 w1 base ok v1 (xs ++ ys) → Below base W w1 → W.grownBy w1 (a.eval s).ownBlock → Kc (a.put o.dst v1) w1) :
    if Region.wanted o (yielded ops a.tmps) = true then Oper.wp Try.prog o a W Kc Q else Kc (a.put o.dst undef) W := by
  obtain ⟨A, c, hv, hc, hC⟩ := HS
  exact Kd.R_append_rows_step kRw (w0 := W) base hw s x 23 69 (.agg #[.int .i64 0, .int .i64 0, .int .i64 0, .int .i64 0, .int .i64 0]) 40 ho Try.underlying23 infoRw rfl (by decide) (by omega) _ xs ys A _ c ok (fun _ => False) rfl hv HO hC (fun _ _ hk => kRw_M.2 (kRw_K.1 hk)) (fun _ hk => hk.elim) hfresh (Below.refl _ _) hbase (by omega) (fun v1 w1 h1 h2 h3 _ => h v1 w1 h1 h2 h3)
end
/-- a row of one element -/
theorem one_Sl {w : World} {g : Nat} {y : Rw} {t : TypeId} (h : w.heap[g]? = some (.cells #[.int .i64 y.f0, .int .i64 y.f1, .int .i64 y.f2.f0, .int .i64 y.f2.f1, .int .i64 y.f3] t (0, 0))) : Sl kRw w (.slice (some ⟨g, 0, none⟩) 1 1) [y] := by
  refine ⟨some ⟨g, 0, none⟩, 1, rfl, Nat.le_refl _, rfl, by show 1 ≤ 9223372036854775807; decide, fun _ => ⟨_, rfl, fun j p hj => ?_⟩⟩
  have hj0 : j = 0 := by have := (List.getElem?_eq_some_iff.1 hj).1; simp at this; omega
  subst hj0
  have : p = y := by simpa using hj.symm
  subst this
  refine ⟨vRw p, rfl, kRw_K.2 rfl, fun i u hu => ?_⟩
  rw [Nat.zero_mul, Nat.zero_add, add_plain, blk_cell h]
  rw [← List.getElem?_toArray] at hu
  exact hu
/-- drawn rows: in bounds and few, if they are rows at all -/
def RowsD (l : List Rw) : Prop := l.length ≤ 11 ∧ (rowsOk l = true → (∀ r ∈ l, small r) ∧ l.length ≤ 10)
theorem RowsD.bad {l : List Rw} {x : Rw} (hl : l.length ≤ 10) (hx : rowOk x = false) : RowsD (l ++ [x]) := by
  refine ⟨by rw [List.length_append, List.length_singleton]; omega, fun h => ?_⟩
  have := (rowsOk_all h).2 x (List.mem_append.2 (.inr List.mem_cons_self))
  rw [hx] at this; cases this
theorem RowsD.good {l : List Rw} (hl : l.length ≤ 10) (h : ∀ r ∈ l, small r) : RowsD l := ⟨by omega, fun _ => ⟨h, hl⟩⟩
def RowsP (w0 : World) (rb : Nat) (s : List Int) (p : Int) (W : World) (e : Ending) (W' : World) : Prop := ∃ (v : Value) (l : List Rw), e = .returned v ∧ kRw.R 69 W' W.heap.size okT v l ∧ RowsD l ∧ Adv w0 rb s p 130 W W'
theorem RowsP.mk {w0 : World} {rb : Nat} {s : List Int} {p : Int} {W W' : World} {v : Value} {l : List Rw} (h : kRw.R 69 W' W.heap.size okT v l) (hd : RowsD l) (ha : Adv w0 rb s p 130 W W') : RowsP w0 rb s p W (.returned v) W' := ⟨v, l, rfl, h, hd, ha⟩
theorem badK (x : Rw) {k : Int} (h : k = -1 ∨ k = 4) : rowOk ⟨k, x.f1, x.f2, x.f3⟩ = false := by
  rcases h with rfl | rfl <;> simp [rowOk]
theorem badV (x : Rw) {k : Int} (h : k = -1 ∨ k = 100) : rowOk ⟨x.f0, k, x.f2, x.f3⟩ = false := by
  rcases h with rfl | rfl <;> simp [rowOk]
theorem badD (x : Rw) {k : Int} (h : k = -100000 ∨ k = 100000) : rowOk ⟨x.f0, x.f1, x.f2, k⟩ = false := by
  rcases h with rfl | rfl <;> simp [rowOk]
theorem badT (x : Rw) (b : Int) : rowOk ⟨x.f0, x.f1, ⟨-1, b⟩, x.f3⟩ = false := by simp [rowOk, tOk]
theorem badT2 (x : Rw) (a : Int) : rowOk ⟨x.f0, x.f1, ⟨a, 8⟩, x.f3⟩ = false := by simp [rowOk, tOk]
set_option maxRecDepth 100000 in
set_option maxHeartbeats 4000000 in
theorem spec_l71Spoil {w0 W : World} {rb : Nat} {s : List Int} {p : Int} (hS : Aside0 (RS s)) (h : Rd w0 rb s p W) (hp : p ≤ 500000) (v : Value) (l : List Rw) (hl : Sl kRw W v l) (hrb : kRw.R 69 W w0.heap.size (fun q => q ≠ rb) v l) (hn : l.length ≤ 10) :
    Calls Try.prog 127 #[.pointer (some ⟨rb, 0, none⟩), v] W (fun e W' => ∃ (v : Value) (l : List Rw), e = .returned v ∧ kRw.R 69 W' W.heap.size okT v l ∧ RowsD l ∧ Adv w0 rb s p 10 W W') := by
  have hbl := h.lt
  have hge := h.ge
  have hbs := h.bel.size
  have hnn := h.nn
  have HR := Aside0.mk h
  have HL := Aside0.mk hrb
  have HV := Aside0.mk (show W.grownBy W (some rb) from ⟨rfl, rfl, rfl, Nat.le_refl _, fun _ _ _ => rfl⟩)
  clear h hrb hl
  go_enter Try.func127, Try.ntmps127
  go_upto_region 2 with (go_at_call 152; ((with_reducible refine (spec_l71Row hS HR.out (by omega)).mono ?_); rintro e wa ⟨x, rfl, hx, hadv⟩; obtain ⟨p1, g0, g1, hr1, hg1⟩ := hadv; replace HL := Aside0.mk (R_pick HL.out hg1 (fun q hq => hq)); replace HR := Aside0.mk hr1; replace HV := Aside0.mk hg1; clear hr1 hg1 hx))
  have hwa := HV.out.size
  refine name_world fun W1 hW => ?_
  have B0 : W1.heap[wa.heap.size]? = some (.cells #[.int .i64 x.f0, .int .i64 x.f1, .int .i64 x.f2.f0, .int .i64 x.f2.f1, .int .i64 x.f3] 69 (0, 0)) := by rw [hW]; exact blk_new wa _
  have hb1 : Below wa.heap.size wa W1 := by rw [hW]; repeat (first | exact Below.refl _ _ | apply below_alloc | refine below_set ?_ (by simp))
  clear hW
  generalize hX : wa.heap.size = X at B0 ⊢
  have hXl : W.heap.size ≤ X := by omega
  have hrX : rb ≠ X := by omega
  replace HL := Aside0.mk (R_new (ok' := fun q => q ≠ rb ∧ q ≠ X) HL.out (X := X) (by omega) (fun q h1 h2 => ⟨h1, by omega⟩))
  replace HL := Aside0.mk (Kd.R_below HL.out hb1)
  replace HR := Aside0.mk (HR.out.below hb1)
  replace HV := Aside0.mk (grownBy_after HV.out hb1)
  have HX := Aside0.mk B0
  clear B0 hX hb1 hwa
  go_upto_block 0 with (go_at_call 85; ((with_reducible refine (spec_pick hS.out HR.out (by omega) _ (by omega) (by omega)).mono ?_); rintro e w' ⟨t, rfl, t0, t1, hr, hg⟩; replace HX := Aside0.mk (blk_grown HX.out hg (by intro e; have := Option.some.inj e; omega)); replace HL := Aside0.mk (R_pick HL.out hg (fun q hq => by first | exact hq | exact hq.1 | exact hq.2)); replace HV := Aside0.mk (gthen HV.out hg); replace HR := Aside0.mk hr; clear hr hg))
  go_cut [] (fun wc => ∃ (y : Rw) (p2 : Int), rowOk y = false ∧ p1 ≤ p2 ∧ p2 ≤ p1 + 2 ∧ Aside0 (wc.heap[X]? = some (.cells #[.int .i64 y.f0, .int .i64 y.f1, .int .i64 y.f2.f0, .int .i64 y.f2.f1, .int .i64 y.f3] 69 (0, 0))) ∧ Aside0 (kRw.R 69 wc w0.heap.size (fun q => q ≠ rb ∧ q ≠ X) v l) ∧ Aside0 (Rd w0 rb s p2 wc) ∧ Aside0 (W.grownBy wc (some rb)))
  case first =>
    rcases (show t = 0 ∨ t = 1 ∨ t = 2 ∨ t = 3 ∨ t = 4 by omega) with rfl | rfl | rfl | rfl | rfl
    · go_wp2_with (go_at_call 85; ((with_reducible refine (spec_pick hS.out (HR.out.alloc (.cells #[.int .i64 (-1), .int .i64 4] 3)) (by omega) 2 (by omega) (by omega)).mono ?_); rintro e w3 ⟨j, rfl, j0, j1, hr, hg⟩; obtain ⟨m, rfl⟩ := Int.eq_ofNat_of_zero_le j0; obtain ⟨z, hz, hzz⟩ := lit2 (blk_grown (blk_new w' (.cells #[.int .i64 (-1), .int .i64 4] 3)) hg (by have := HR.out.lt; intro e; have := Option.some.inj e; omega)) m (by omega); have HX3 := Aside0.mk (blk_grown (blk_alloc HX.out (.cells #[.int .i64 (-1), .int .i64 4] 3)) hg (by intro e; exact hrX (Option.some.inj e).symm)); have HL3 := Aside0.mk (R_pick (R_alloc HL.out (.cells #[.int .i64 (-1), .int .i64 4] 3)) hg (fun q hq => hq.1)); have HV3 := Aside0.mk (gthen (grownBy_after HV.out (below_alloc (Below.refl _ _) (.cells #[.int .i64 (-1), .int .i64 4] 3))) hg); have HR3 := Aside0.mk hr; have kx : w3.cell? ⟨X, 0, none⟩ = some (.int .i64 x.f0) := blk_cell HX3.out 0; have kf := blk_fz HX3.out 0; clear hr hg))
      go_meet
      case rel => exact ⟨⟨z, x.f1, x.f2, x.f3⟩, p1 + 1 + 1, badK x hzz, by omega, by omega, ⟨by simpa using blk_set HX3.out 0 (.int .i64 z)⟩, ⟨Kd.R_far HL3.out (fun q hq => hq.2) _⟩, ⟨HR3.out.far hrX (by show w0.heap.size ≤ X; omega) _⟩, ⟨set_grownX (by show W.heap.size ≤ X; exact hXl) HV3.out _⟩⟩
    · go_wp2_with (go_at_call 85; ((with_reducible refine (spec_pick hS.out (HR.out.alloc (.cells #[.int .i64 (-1), .int .i64 100] 3)) (by omega) 2 (by omega) (by omega)).mono ?_); rintro e w3 ⟨j, rfl, j0, j1, hr, hg⟩; obtain ⟨m, rfl⟩ := Int.eq_ofNat_of_zero_le j0; obtain ⟨z, hz, hzz⟩ := lit2 (blk_grown (blk_new w' (.cells #[.int .i64 (-1), .int .i64 100] 3)) hg (by have := HR.out.lt; intro e; have := Option.some.inj e; omega)) m (by omega); have HX3 := Aside0.mk (blk_grown (blk_alloc HX.out (.cells #[.int .i64 (-1), .int .i64 100] 3)) hg (by intro e; exact hrX (Option.some.inj e).symm)); have HL3 := Aside0.mk (R_pick (R_alloc HL.out (.cells #[.int .i64 (-1), .int .i64 100] 3)) hg (fun q hq => hq.1)); have HV3 := Aside0.mk (gthen (grownBy_after HV.out (below_alloc (Below.refl _ _) (.cells #[.int .i64 (-1), .int .i64 100] 3))) hg); have HR3 := Aside0.mk hr; have kx : w3.cell? ⟨X, 1, none⟩ = some (.int .i64 x.f1) := blk_cell HX3.out 1; have kf := blk_fz HX3.out 1; clear hr hg))
      go_meet
      case rel => exact ⟨⟨x.f0, z, x.f2, x.f3⟩, p1 + 1 + 1, badV x hzz, by omega, by omega, ⟨by simpa using blk_set HX3.out 1 (.int .i64 z)⟩, ⟨Kd.R_far HL3.out (fun q hq => hq.2) _⟩, ⟨HR3.out.far hrX (by show w0.heap.size ≤ X; omega) _⟩, ⟨set_grownX (by show W.heap.size ≤ X; exact hXl) HV3.out _⟩⟩
    · have kx2 : w'.cell? ⟨X, 2, none⟩ = some (.int .i64 x.f2.f0) := blk_cell HX.out 2
      have kx3 : w'.cell? ⟨X, 3, none⟩ = some (.int .i64 x.f2.f1) := blk_cell HX.out 3
      have kf2 := blk_fz HX.out 2
      have kf3 := blk_fz HX.out 3
      go_wp2
      go_meet
      case rel => exact ⟨⟨x.f0, x.f1, ⟨-1, 0⟩, x.f3⟩, p1 + 1, badT x 0, by omega, by omega, ⟨by simpa using blk_set (blk_set HX.out 2 (.int .i64 (-1))) 3 (.int .i64 0)⟩, ⟨Kd.R_far (Kd.R_far HL.out (fun q hq => hq.2) _) (fun q hq => hq.2) _⟩, ⟨(HR.out.far hrX (by show w0.heap.size ≤ X; omega) _).far hrX (by show w0.heap.size ≤ X; omega) _⟩, ⟨set_grownX (by show W.heap.size ≤ X; exact hXl) (set_grownX (by show W.heap.size ≤ X; exact hXl) HV.out _) _⟩⟩
    · go_wp2_with (go_at_call 85; ((with_reducible refine (spec_pick hS.out (HR.out.alloc (.cells #[.int .i64 (-100000), .int .i64 100000] 3)) (by omega) 2 (by omega) (by omega)).mono ?_); rintro e w3 ⟨j, rfl, j0, j1, hr, hg⟩; obtain ⟨m, rfl⟩ := Int.eq_ofNat_of_zero_le j0; obtain ⟨z, hz, hzz⟩ := lit2 (blk_grown (blk_new w' (.cells #[.int .i64 (-100000), .int .i64 100000] 3)) hg (by have := HR.out.lt; intro e; have := Option.some.inj e; omega)) m (by omega); have HX3 := Aside0.mk (blk_grown (blk_alloc HX.out (.cells #[.int .i64 (-100000), .int .i64 100000] 3)) hg (by intro e; exact hrX (Option.some.inj e).symm)); have HL3 := Aside0.mk (R_pick (R_alloc HL.out (.cells #[.int .i64 (-100000), .int .i64 100000] 3)) hg (fun q hq => hq.1)); have HV3 := Aside0.mk (gthen (grownBy_after HV.out (below_alloc (Below.refl _ _) (.cells #[.int .i64 (-100000), .int .i64 100000] 3))) hg); have HR3 := Aside0.mk hr; have kx : w3.cell? ⟨X, 4, none⟩ = some (.int .i64 x.f3) := blk_cell HX3.out 4; have kf := blk_fz HX3.out 4; clear hr hg))
      go_meet
      case rel => exact ⟨⟨x.f0, x.f1, x.f2, z⟩, p1 + 1 + 1, badD x hzz, by omega, by omega, ⟨by simpa using blk_set HX3.out 4 (.int .i64 z)⟩, ⟨Kd.R_far HL3.out (fun q hq => hq.2) _⟩, ⟨HR3.out.far hrX (by show w0.heap.size ≤ X; omega) _⟩, ⟨set_grownX (by show W.heap.size ≤ X; exact hXl) HV3.out _⟩⟩
    · have kx3 : w'.cell? ⟨X, 3, none⟩ = some (.int .i64 x.f2.f1) := blk_cell HX.out 3
      have kf3 := blk_fz HX.out 3
      go_wp2
      go_meet
      case rel => exact ⟨⟨x.f0, x.f1, ⟨x.f2.f0, 8⟩, x.f3⟩, p1 + 1, badT2 x _, by omega, by omega, ⟨by simpa using blk_set HX.out 3 (.int .i64 8)⟩, ⟨Kd.R_far HL.out (fun q hq => hq.2) _⟩, ⟨HR.out.far hrX (by show w0.heap.size ≤ X; omega) _⟩, ⟨set_grownX (by show W.heap.size ≤ X; exact hXl) HV.out _⟩⟩
  case rest =>
    clear HX HL HR HV
    obtain ⟨y, p2, hy, hp2, hp3, HX, HL, HR, HV⟩ := hcut
    go_at_K
    go_upto_region 12 with fail
    have c0 := blk_cell HX.out 0
    have c1 := blk_cell HX.out 1
    have c2 := blk_cell HX.out 2
    have c3 := blk_cell HX.out 3
    have c4 := blk_cell HX.out 4
    obtain ⟨Al, cl, rfl, hcl, hCl⟩ := Sl.of_R HL.out
    have hml := Kd.C_max hCl
    clear hCl
    have hwc := HV.out.size
    have hrw := HR.out.lt
    have hXw := blk_lt HX.out
    have HE1 := Aside0.mk (R_none (d := kRw) (e := 69) (w := wc.drew.alloc (.cells #[] 69)) (base := W.heap.size) (ok := fun q => q ≠ rb ∧ q ≠ X) (blk_new wc.drew (.cells #[] 69)) (by show W.heap.size ≤ wc.heap.size; omega) ⟨by show wc.heap.size ≠ rb; omega, by show wc.heap.size ≠ X; omega⟩)
    have HE2 := Aside0.mk (R_none (d := kRw) (e := 69) (w := (wc.drew.alloc (.cells #[] 69)).alloc (.cells #[.int .i64 y.f0, .int .i64 y.f1, .int .i64 y.f2.f0, .int .i64 y.f2.f1, .int .i64 y.f3] 69)) (base := W.heap.size) (ok := fun q => q ≠ rb ∧ q ≠ X) (blk_alloc (blk_new wc.drew (.cells #[] 69)) (.cells #[.int .i64 y.f0, .int .i64 y.f1, .int .i64 y.f2.f0, .int .i64 y.f2.f1, .int .i64 y.f3] 69)) (by show W.heap.size ≤ wc.heap.size; omega) ⟨by show wc.heap.size ≠ rb; omega, by show wc.heap.size ≠ X; omega⟩)
    have HE3 := Aside0.mk (R_none (d := kRw) (e := 69) (w := (wc.drew.alloc (.cells #[.int .i64 y.f0, .int .i64 y.f1, .int .i64 y.f2.f0, .int .i64 y.f2.f1, .int .i64 y.f3] 69)).alloc (.cells #[] 69)) (base := W.heap.size) (ok := fun q => q ≠ rb ∧ q ≠ X) (blk_two wc.drew (.cells #[.int .i64 y.f0, .int .i64 y.f1, .int .i64 y.f2.f0, .int .i64 y.f2.f1, .int .i64 y.f3] 69) (.cells #[] 69)) (by show W.heap.size ≤ wc.heap.size + 1; omega) ⟨by show wc.heap.size + 1 ≠ rb; omega, by show wc.heap.size + 1 ≠ X; omega⟩)
    have HL1 := Aside0.mk ((Sl.of_R HL.out).below (below_alloc (below_drew (Below.refl _ _)) (.cells #[] 69)))
    have HL2 := Aside0.mk ((Sl.of_R HL.out).below (below_alloc (below_alloc (below_drew (Below.refl _ _)) (.cells #[] 69)) (.cells #[.int .i64 y.f0, .int .i64 y.f1, .int .i64 y.f2.f0, .int .i64 y.f2.f1, .int .i64 y.f3] 69)))
    have HL3 := Aside0.mk ((Sl.of_R HL.out).below (below_alloc (below_alloc (below_drew (Below.refl _ _)) (.cells #[.int .i64 y.f0, .int .i64 y.f1, .int .i64 y.f2.f0, .int .i64 y.f2.f1, .int .i64 y.f3] 69)) (.cells #[] 69)))
    have HX1_ := Aside0.mk (blk_alloc (show wc.drew.heap[X]? = _ from HX.out) (.cells #[] 69))
    have HX2_ := Aside0.mk (blk_alloc (blk_alloc (show wc.drew.heap[X]? = _ from HX.out) (.cells #[] 69)) (.cells #[.int .i64 y.f0, .int .i64 y.f1, .int .i64 y.f2.f0, .int .i64 y.f2.f1, .int .i64 y.f3] 69))
    have HX3_ := Aside0.mk (blk_alloc (blk_alloc (show wc.drew.heap[X]? = _ from HX.out) (.cells #[.int .i64 y.f0, .int .i64 y.f1, .int .i64 y.f2.f0, .int .i64 y.f2.f1, .int .i64 y.f3] 69)) (.cells #[] 69))
    have HR2_ := Aside0.mk (blk_two wc.drew (.cells #[] 69) (.cells #[.int .i64 y.f0, .int .i64 y.f1, .int .i64 y.f2.f0, .int .i64 y.f2.f1, .int .i64 y.f3] 69))
    have HR3_ := Aside0.mk (blk_alloc (blk_new wc.drew (.cells #[.int .i64 y.f0, .int .i64 y.f1, .int .i64 y.f2.f0, .int .i64 y.f2.f1, .int .i64 y.f3] 69)) (.cells #[] 69))
    have hsw : wc.drew.heap.size = wc.heap.size := rfl
    clear HX
    go_region_held3 (fun w' => w'.cell? ⟨X, 0, none⟩ = some (.int .i64 y.f0) ∧ w'.cell? ⟨X, 1, none⟩ = some (.int .i64 y.f1) ∧ w'.cell? ⟨X, 2, none⟩ = some (.int .i64 y.f2.f0) ∧ w'.cell? ⟨X, 3, none⟩ = some (.int .i64 y.f2.f1) ∧ w'.cell? ⟨X, 4, none⟩ = some (.int .i64 y.f3))
      (first | exact ⟨c0, c1, c2, c3, c4⟩ | exact ⟨blk_cell HX2.out 0, blk_cell HX2.out 1, blk_cell HX2.out 2, blk_cell HX2.out 3, blk_cell HX2.out 4⟩ | exact ⟨blk_cell HX1.out 0, blk_cell HX1.out 1, blk_cell HX1.out 2, blk_cell HX1.out 3, blk_cell HX1.out 4⟩ | exact ⟨pw_cell_below (below_alloc (Below.refl _ _) _) (blk_cell HX1.out 0), pw_cell_below (below_alloc (Below.refl _ _) _) (blk_cell HX1.out 1), pw_cell_below (below_alloc (Below.refl _ _) _) (blk_cell HX1.out 2), pw_cell_below (below_alloc (Below.refl _ _) _) (blk_cell HX1.out 3), pw_cell_below (below_alloc (Below.refl _ _) _) (blk_cell HX1.out 4)⟩ | exact ⟨pw_cell_below (by repeat (first | exact Below.refl _ _ | apply below_alloc | apply below_drew)) c0, pw_cell_below (by repeat (first | exact Below.refl _ _ | apply below_alloc | apply below_drew)) c1, pw_cell_below (by repeat (first | exact Below.refl _ _ | apply below_alloc | apply below_drew)) c2, pw_cell_below (by repeat (first | exact Below.refl _ _ | apply below_alloc | apply below_drew)) c3, pw_cell_below (by repeat (first | exact Below.refl _ _ | apply below_alloc | apply below_drew)) c4⟩)
      (first
        | (refine stepsRw (W := wc.drew.alloc (.cells #[] 69)) (base := W.heap.size) (xs := []) (ys := l) (ok := fun q => q ≠ rb ∧ q ≠ X) rfl rfl HL1.out HE1.out (fun q hq => by have h7 : wc.heap.size + 1 ≤ q := (by simp at hq; omega); exact ⟨by omega, by omega⟩) (by simp; omega) (by simp; omega) ?_; intro v1 w1 hr1 hb1 hg1; have HO1 := Aside0.mk hr1; have HB1 := Aside0.mk hb1; have hsz1 : wc.heap.size + 1 ≤ w1.heap.size := (by have := hg1.size; simp at this; omega); have HX1 := Aside0.mk (blk_app HE1.out hg1 HX1_.out (fun e => e.2 rfl)); clear hr1 hb1 hg1)
        | (refine stepsRw (W := (wc.drew.alloc (.cells #[] 69)).alloc (.cells #[.int .i64 y.f0, .int .i64 y.f1, .int .i64 y.f2.f0, .int .i64 y.f2.f1, .int .i64 y.f3] 69)) (base := W.heap.size) (xs := []) (ys := l) (ok := fun q => q ≠ rb ∧ q ≠ X) rfl rfl HL2.out HE2.out (fun q hq => by have h7 : wc.heap.size + 1 ≤ q := (by simp at hq; omega); exact ⟨by omega, by omega⟩) (by simp; omega) (by simp; omega) ?_; intro v1 w1 hr1 hb1 hg1; have HO1 := Aside0.mk hr1; have HB1 := Aside0.mk hb1; have hsz1 : wc.heap.size + 1 ≤ w1.heap.size := (by have := hg1.size; simp at this; omega); have HX1 := Aside0.mk (blk_app HE2.out hg1 HX2_.out (fun e => e.2 rfl)); have HRS := Aside0.mk (one_Sl (blk_grown HR2_.out hg1 (by show some (wc.heap.size + 1) ≠ some wc.heap.size; simp))); clear hr1 hb1 hg1)
        | (refine stepsRw (W := (wc.drew.alloc (.cells #[.int .i64 y.f0, .int .i64 y.f1, .int .i64 y.f2.f0, .int .i64 y.f2.f1, .int .i64 y.f3] 69)).alloc (.cells #[] 69)) (base := W.heap.size) (xs := []) (ys := l) (ok := fun q => q ≠ rb ∧ q ≠ X) rfl rfl HL3.out HE3.out (fun q hq => by have h7 : wc.heap.size + 1 ≤ q := (by simp at hq; omega); exact ⟨by omega, by omega⟩) (by simp; omega) (by simp; omega) ?_; intro v1 w1 hr1 hb1 hg1; have HO1 := Aside0.mk hr1; have HB1 := Aside0.mk hb1; have hsz1 : wc.heap.size + 1 ≤ w1.heap.size := (by have := hg1.size; simp at this; omega); have HX1 := Aside0.mk (blk_app HE3.out hg1 HX3_.out (fun e => e.2 rfl)); have HRS := Aside0.mk (one_Sl (blk_grown HR3_.out hg1 (by show some wc.heap.size ≠ some (wc.heap.size + 1); simp))); clear hr1 hb1 hg1)
        | (refine stepRw (W := w1) (base := W.heap.size) (xs := [] ++ l) (ok := fun q => q ≠ rb ∧ q ≠ X) rfl rfl rfl HO1.out (fun q hq => ⟨by omega, by omega⟩) (by omega) (by simp; omega) ?_; intro v2 w2 hr1 hb1 hg1; have HO2 := Aside0.mk hr1; have HB2 := Aside0.mk hb1; have HX2 := Aside0.mk (blk_app HO1.out hg1 HX1.out (fun e => e.2 rfl)); clear hr1 hb1 hg1)
        | (refine stepsRw (W := w1) (base := W.heap.size) (xs := [] ++ l) (ys := [y]) (ok := fun q => q ≠ rb ∧ q ≠ X) rfl rfl HRS.out HO1.out (fun q hq => ⟨by omega, by omega⟩) (by omega) (by simp; omega) ?_; intro v2 w2 hr1 hb1 hg1; have HO2 := Aside0.mk hr1; have HB2 := Aside0.mk hb1; have HX2 := Aside0.mk (blk_app HO1.out hg1 HX1.out (fun e => e.2 rfl)); clear hr1 hb1 hg1))
    all_goals
      go_wp2
      go_ret
    all_goals
      refine ⟨_, _, rfl, Kd.R_mono HO2.out (fun _ _ => trivial), RowsD.bad (by simpa using hn) hy, p2, by omega, by omega, Rd.belowB (Rd.belowB ?_ HB1.out hbl) HB2.out hbl, gthenB (gthenB (grownBy_after HV.out ?_) HB1.out) HB2.out⟩
      · exact HR.out.below (by repeat (first | exact Below.refl _ _ | apply below_alloc | apply below_drew))
      · (repeat (first | exact Below.refl _ _ | apply below_alloc | apply below_drew))
end Go.Proofs.Ytlmglffdmoklcaa.X

/-! ## DrRow3 -/
namespace Go.Proofs.Ytlmglffdmoklcaa.X
open Go.RowKit Go.Proofs.YtlmglffdmoklcaaW.PrintWords
set_option linter.unusedVariables false
set_option linter.unusedSimpArgs false

set_option maxRecDepth 100000 in
set_option maxHeartbeats 2000000 in
theorem spec_l71Any {w0 W : World} {rb : Nat} {s : List Int} {p : Int} (hS : Aside0 (RS s)) (h : Rd w0 rb s p W) (hp : p ≤ 400000) :
    Calls Try.prog 68 #[.pointer (some ⟨rb, 0, none⟩)] W (RowsP w0 rb s p W) := by
  have hbl := h.lt
  have hbs := h.bel.size
  have hnn := h.nn
  have C1 := spec_l71Rows hS h (by omega) 10 (by omega)
  rw [show ((10 : Nat) : Int) = 10 from rfl] at C1
  have HR := Aside0.mk h
  have HV := Aside0.mk (show W.grownBy W (some rb) from ⟨rfl, rfl, rfl, Nat.le_refl _, fun _ _ _ => rfl⟩)
  clear h
  go_enter Try.func68, Try.ntmps68
  go_upto_region 2 with (go_at_call 126; ((with_reducible refine C1.mono ?_); rintro e wa ⟨va, la, rfl, hra, hsm, hla, hadv⟩; have HLA := Aside0.mk hsm; have HO := Aside0.mk (R_off hra hbl); obtain ⟨p1, g0, g1, hr1, hg1⟩ := hadv; replace HR := Aside0.mk hr1; replace HV := Aside0.mk hg1; clear hr1 hg1 hra hsm))
  clear C1
  go_upto_if 8 with (go_at_call 85; ((with_reducible refine (spec_pick hS.out HR.out (by omega) 14 (by omega) (by omega)).mono ?_); rintro e w' ⟨t, rfl, t0, t1, hr, hg⟩; replace HO := Aside0.mk (R_pick HO.out hg (fun q hq => by first | exact hq | exact hq.1 | exact hq.2)); replace HV := Aside0.mk (gthen HV.out hg); replace HR := Aside0.mk hr; clear hr hg))
  by_cases ht0 : t = 0
  · have htb : (t == 0) = true := by rw [ht0]; rfl
    have hgs := HV.out.size
    go_wp2_with (go_at_call 127; ((with_reducible refine (spec_l71Spoil hS HR.out (by omega) va la (Sl.of_R HO.out) (Kd.R_lower HO.out (by omega)) hla).mono ?_); rintro e w3 ⟨v2, l2, rfl, hr2, hd2, p3, g3, g4, hrd, hg⟩; have HO2 := Aside0.mk (Kd.R_lower hr2 hgs); have HD := Aside0.mk hd2; have HR3 := Aside0.mk hrd; have HV3 := Aside0.mk (gthen HV.out hg); clear hr2 hd2 hrd hg))
    go_ret
    exact RowsP.mk HO2.out HD.out ⟨p3, by omega, by omega, HR3.out, HV3.out⟩
  · have htb : (t == 0) = false := by simp [ht0]
    go_wp2
    go_ret
    exact RowsP.mk (Kd.R_mono HO.out (fun _ _ => trivial)) (RowsD.good hla HLA.out) ⟨p1 + 1, by omega, by omega, HR.out, HV.out⟩
/-- rows drawn twice -/
def Row2P (w : World) (e : Ending) (w' : World) : Prop := ∃ (v v2 : Value) (l m : List Rw), e = .returned (.tuple #[v, v2]) ∧ Sl kRw w' v l ∧ Sl kRw w' v2 m ∧ RowsD l ∧ RowsD m ∧ Below w.heap.size w w'
theorem Row2P.mk {w w' : World} {v v2 : Value} {l m : List Rw} (h1 : Sl kRw w' v l) (h2 : Sl kRw w' v2 m) (h3 : RowsD l) (h4 : RowsD m) (h5 : Below w.heap.size w w') : Row2P w (.returned (.tuple #[v, v2])) w' := ⟨v, v2, l, m, rfl, h1, h2, h3, h4, h5⟩
set_option maxRecDepth 100000 in
set_option maxHeartbeats 2000000 in
theorem spec_DrawBatchBoth (v : Value) (l : List Int) (w : World) (h : Sl kB w v l) (hb : ∀ x ∈ l, 0 ≤ x ∧ x ≤ 255) : Calls Try.prog 80 #[v] w (Row2P w) := by
  have C1 := spec_l6Open v l w h hb
  go_enter Try.func80, Try.ntmps80
  go_wp2_with (first
    | (go_at_call 69; ((with_reducible refine C1.mono ?_); rintro e wa ⟨rb, s, rfl, hs, hrd, hba⟩; have HS := Aside0.mk hs; have HR := Aside0.mk hrd; clear hs hrd hba))
    | (go_at_call 68; ((with_reducible refine (spec_l71Any (W := wa) HS HR.out (by omega)).mono ?_); rintro e wb ⟨v1, l1, rfl, hr1, hd1, p1, g0, g1, hrb, hgb⟩; have HD1 := Aside0.mk hd1; have HO1 := Aside0.mk (R_off hr1 HR.out.lt); have HR1 := Aside0.mk hrb; have hbl := HR1.out.lt; clear hr1 hd1 hrb hgb))
    | (go_at_call 68; ((with_reducible refine (spec_l71Any (W := wb) HS HR1.out (by omega)).mono ?_); rintro e wc ⟨v2, l2, rfl, hr2, hd2, p2, g2, g3, hrc, hgc⟩; have HD2 := Aside0.mk hd2; have HO2 := Aside0.mk (Sl.of_R hr2); have HO3 := Aside0.mk (Sl.of_R (R_pick HO1.out hgc (fun q hq => hq))); have HB := Aside0.mk hrc.bel; clear hr2 hd2 hrc hgc)))
  go_ret2
  exact Row2P.mk HO3.out HO2.out HD1.out HD2.out HB.out
set_option maxRecDepth 100000 in
set_option maxHeartbeats 2000000 in
theorem spec_DrawFlowJoin (v : Value) (l : List Int) (w : World) (h : Sl kB w v l) (hb : ∀ x ∈ l, 0 ≤ x ∧ x ≤ 255) : Calls Try.prog 26 #[v] w (Row2P w) := by
  have C1 := spec_DrawBatchBoth v l w h hb
  go_enter Try.func26, Try.ntmps26
  go_wp2_with (go_at_call 80; ((with_reducible refine C1.mono ?_); rintro e wa ⟨v1, v2, l1, l2, rfl, h1, h2, h3, h4, h5⟩; have H1 := Aside0.mk h1; have H2 := Aside0.mk h2; have H3 := Aside0.mk h3; have H4 := Aside0.mk h4; have H5 := Aside0.mk h5; clear h1 h2 h3 h4 h5))
  go_ret2
  exact Row2P.mk H1.out H2.out H3.out H4.out H5.out
/-- drawn rows and a number -/
def RowNP (w : World) (e : Ending) (w' : World) : Prop := ∃ (v : Value) (l : List Rw) (n : Int), e = .returned (.tuple #[v, .int .i64 n]) ∧ Sl kRw w' v l ∧ RowsD l ∧ (-1 ≤ n ∧ n ≤ 8) ∧ Below w.heap.size w w'
theorem RowNP.mk {w w' : World} {v : Value} {l : List Rw} {n : Int} (h1 : Sl kRw w' v l) (h3 : RowsD l) (h0 : -1 ≤ n) (h2 : n ≤ 8) (h5 : Below w.heap.size w w') : RowNP w (.returned (.tuple #[v, .int .i64 n])) w' := ⟨v, l, n, rfl, h1, h3, ⟨h0, h2⟩, h5⟩
set_option maxRecDepth 100000 in
set_option maxHeartbeats 2000000 in
theorem spec_DrawFlowEach (v : Value) (l : List Int) (w : World) (h : Sl kB w v l) (hb : ∀ x ∈ l, 0 ≤ x ∧ x ≤ 255) : Calls Try.prog 30 #[v] w (RowNP w) := by
  have C1 := spec_l6Open v l w h hb
  go_enter Try.func30, Try.ntmps30
  go_upto_region 3 with (first
    | (go_at_call 69; ((with_reducible refine C1.mono ?_); rintro e wa ⟨rb, s, rfl, hs, hrd, hba⟩; have hS := Aside0.mk hs; have HR := Aside0.mk hrd; clear hs hrd hba))
    | (go_at_call 68; ((with_reducible refine (spec_l71Any (W := wa) hS HR.out (by omega)).mono ?_); rintro e wb ⟨v1, l1, rfl, hr1, hd1, p1, g0, g1, hrb, hgb⟩; have HD1 := Aside0.mk hd1; have HO := Aside0.mk (R_off hr1 HR.out.lt); have HV := Aside0.mk (show wb.grownBy wb (some rb) from ⟨rfl, rfl, rfl, Nat.le_refl _, fun _ _ _ => rfl⟩); replace HR := Aside0.mk hrb; clear hr1 hd1 hrb hgb)))
  go_upto_if 12 with (go_at_call 85; ((with_reducible refine (spec_pick hS.out HR.out (by omega) _ (by omega) (by omega)).mono ?_); rintro e w' ⟨t, rfl, t0, t1, hr, hg⟩; replace HO := Aside0.mk (R_pick HO.out hg (fun q hq => by first | exact hq | exact hq.1 | exact hq.2)); replace HV := Aside0.mk (gthen HV.out hg); replace HR := Aside0.mk hr; clear hr hg))
  by_cases ht0 : t = 0
  · have htb : (t == 0) = true := by rw [ht0]; rfl
    have HT := Aside0.mk ht0
    clear ht0
    go_upto_region 4 with fail
    have HR0 := Aside0.mk (HR.out.below (below_drew (Below.refl _ _)))
    have HV0 := Aside0.mk (grownBy_after HV.out (below_drew (Below.refl _ _)))
    go_region_with (first
      | (go_at_call 85; ((with_reducible refine (spec_pick hS.out ((HR.out.alloc (.cells #[.int .i64 0, .int .i64 8, .int .i64 (-1)] 3)).drew) (by omega) 3 (by omega) (by omega)).mono ?_); rintro e w3 ⟨j, rfl, j0, j1, hr, hg⟩; obtain ⟨m, rfl⟩ := Int.eq_ofNat_of_zero_le j0; obtain ⟨x, hx, hxx⟩ := lit3 (blk_grown (W := (w'.alloc (.cells #[.int .i64 0, .int .i64 8, .int .i64 (-1)] 3)).drew) (show (w'.alloc (.cells #[.int .i64 0, .int .i64 8, .int .i64 (-1)] 3)).heap[w'.heap.size]? = _ from blk_new w' _) hg (by have := HR.out.lt; intro e; have := Option.some.inj e; omega)) m (by omega); have HR3 := Aside0.mk (hr); have HO3 := Aside0.mk (R_pick (R_drew (R_alloc HO.out (.cells #[.int .i64 0, .int .i64 8, .int .i64 (-1)] 3))) hg (fun q hq => hq)); clear hr hg))
      | (go_at_call 85; ((with_reducible refine (spec_pick hS.out (HR0.out) (by omega) 3 (by omega) (by omega)).mono ?_); rintro e w3 ⟨j, rfl, j0, j1, hr, hg⟩; obtain ⟨m, rfl⟩ := Int.eq_ofNat_of_zero_le j0; obtain ⟨x, hx, hxx⟩ := lit3 (blk_new w3 (.cells #[.int .i64 0, .int .i64 8, .int .i64 (-1)] 3)) m (by omega); have HR3 := Aside0.mk (hr.alloc (.cells #[.int .i64 0, .int .i64 8, .int .i64 (-1)] 3)); have HO3 := Aside0.mk (R_alloc (R_pick (R_drew HO.out) hg (fun q hq => hq)) (.cells #[.int .i64 0, .int .i64 8, .int .i64 (-1)] 3)); clear hr hg)))
    all_goals
      go_wp2
      go_ret2
      exact RowNP.mk (Sl.of_R HO3.out) HD1.out (by omega) (by omega) HR3.out.bel
  · have htb : (t == 0) = false := by simp [ht0]
    go_wp2_with (go_at_call 85; ((with_reducible refine (spec_pick hS.out HR.out (by omega) 7 (by omega) (by omega)).mono ?_); rintro e w' ⟨j, rfl, j0, j1, hr, hg⟩; replace HO := Aside0.mk (R_pick HO.out hg (fun q hq => by first | exact hq | exact hq.1 | exact hq.2)); replace HV := Aside0.mk (gthen HV.out hg); replace HR := Aside0.mk hr; clear hr hg))
    go_ret2
    exact RowNP.mk (Sl.of_R HO.out) HD1.out (by omega) (by omega) HR.out.bel
end Go.Proofs.Ytlmglffdmoklcaa.X

/-! ## DrRow4 -/
namespace Go.Proofs.Ytlmglffdmoklcaa.X
open Go.RowKit Go.Proofs.YtlmglffdmoklcaaW.PrintWords
set_option linter.unusedVariables false
set_option linter.unusedSimpArgs false

/-- drawn rows -/
def Row1Q (w : World) (e : Ending) (w' : World) : Prop := ∃ (v : Value) (l : List Rw), e = .returned v ∧ Sl kRw w' v l ∧ RowsD l ∧ Below w.heap.size w w'
theorem Row1Q.mk {w w' : World} {v : Value} {l : List Rw} (h1 : Sl kRw w' v l) (h3 : RowsD l) (h5 : Below w.heap.size w w') : Row1Q w (.returned v) w' := ⟨v, l, rfl, h1, h3, h5⟩
set_option maxRecDepth 100000 in
set_option maxHeartbeats 2000000 in
theorem spec_DrawBatchLess (v : Value) (l : List Int) (w : World) (h : Sl kB w v l) (hb : ∀ x ∈ l, 0 ≤ x ∧ x ≤ 255) : Calls Try.prog 15 #[v] w (Row1Q w) := by
  have C1 := spec_l6Open v l w h hb
  go_enter Try.func15, Try.ntmps15
  go_wp2_with (first
    | (go_at_call 69; ((with_reducible refine C1.mono ?_); rintro e wa ⟨rb, s, rfl, hs, hrd, hba⟩; have HS := Aside0.mk hs; have HR := Aside0.mk hrd; clear hs hrd hba))
    | (go_at_call 68; ((with_reducible refine (spec_l71Any (W := wa) HS HR.out (by omega)).mono ?_); rintro e wb ⟨v1, l1, rfl, hr1, hd1, p1, g0, g1, hrb, hgb⟩; have HD1 := Aside0.mk hd1; have HO1 := Aside0.mk (Sl.of_R hr1); have HB := Aside0.mk hrb.bel; clear hr1 hd1 hrb hgb)))
  go_ret
  exact Row1Q.mk HO1.out HD1.out HB.out
end Go.Proofs.Ytlmglffdmoklcaa.X

/-! ## DrOdd -/
namespace Go.Proofs.Ytlmglffdmoklcaa.X
open Go.RowKit Go.Proofs.YtlmglffdmoklcaaW.PrintWords
set_option linter.unusedVariables false
set_option linter.unusedSimpArgs false

/-- two results, the second a struct's cell -/
theorem ret_tmp_cell {P : Program} {fn : Func} {R : Ending → World → Prop} {a : Act} {w : World} {t p : Tmp} {ty : TypeId} {g : Nat} {cs : Array Value} {d : TypeDesc} (h : fn.results = #[.tmp t, .cell p ty]) (hp : a.tmps.getD p undef = .pointer (some ⟨g, 0, none⟩)) (hd : a.defers = [])
    (hg : w.heap[g]? = some (.cells cs ty (0, 0))) (hu : P.underlying ty = some d) (hk : (match d with | .struct _ | .array _ _ => true | _ => false) = true) (hi : (P.info? ty).map (·.size) = some cs.size) (hR : R (.returned (.tuple #[a.tmps.getD t undef, .agg cs])) w) : bodyPost P fn R .ret a w := by
  refine bodyPost_ret ?_ hd hR
  have hp' : a.tmps[p]?.getD undef = .pointer (some ⟨g, 0, none⟩) := by simpa using hp
  simp [results, h, hp', asAddr, run_loadVar_row w g ty ty cs (0, 0) d hg hu hk hi]
/-- a drawn time, perhaps a spoilt one -/
def tNear (t : Tm) : Prop := -1 ≤ t.f0 ∧ t.f0 ≤ 8 ∧ -1 ≤ t.f1 ∧ t.f1 ≤ 8
set_option maxRecDepth 100000 in
set_option maxHeartbeats 4000000 in
theorem spec_l71Odd {w0 W : World} {rb : Nat} {s : List Int} {p : Int} (hS : Aside0 (RS s)) (h : Rd w0 rb s p W) (hp : p ≤ 800000) :
    Calls Try.prog 117 #[.pointer (some ⟨rb, 0, none⟩)] W fun e W' => ∃ t : Tm, e = .returned (.agg #[.int .i64 t.f0, .int .i64 t.f1]) ∧ tNear t ∧ Adv w0 rb s p 6 W W' := by
  have hbl := h.lt
  have hge := h.ge
  have hbs := h.bel.size
  have hnn := h.nn
  have HR := Aside0.mk (h.alloc (.cells #[.int .i64 0, .int .i64 0] 34))
  have HV := Aside0.mk (alloc_grown W (.cells #[.int .i64 0, .int .i64 0] 34) (some rb))
  have HC := Aside0.mk (blk_new W (.cells #[.int .i64 0, .int .i64 0] 34))
  clear h
  go_enter Try.func117, Try.ntmps117
  go_upto_region 2 with (go_at_call 146; ((with_reducible refine (spec_l71Time hS HR.out (by omega)).mono ?_); rintro e wa ⟨a, b, rfl, ⟨a0, a1, b0, b1⟩, p1, g0, g1, hr1, hg1⟩; replace HC := Aside0.mk (blk_grown HC.out hg1 (by intro e; have := Option.some.inj e; omega)); replace HR := Aside0.mk hr1; replace HV := Aside0.mk (gthen HV.out hg1); clear hr1 hg1))
  have hwa := blk_lt HC.out
  refine name_world fun W1 hW => ?_
  have B0 : W1.heap[wa.heap.size]? = some (.cells #[.int .i64 a, .int .i64 b] 34 (0, 0)) := by rw [hW]; exact blk_new wa _
  have hb1 : Below wa.heap.size wa W1 := by rw [hW]; repeat (first | exact Below.refl _ _ | apply below_alloc | refine below_set ?_ (by simp))
  clear hW
  generalize hX : wa.heap.size = X at B0 ⊢
  have hXl : W.heap.size < X := by omega
  have hrX : rb ≠ X := by omega
  replace HC := Aside0.mk (blk_below HC.out hb1)
  replace HR := Aside0.mk (HR.out.below hb1)
  replace HV := Aside0.mk (grownBy_after HV.out hb1)
  have HX := Aside0.mk B0
  clear B0 hX hb1 hwa
  go_upto_block 0 with (go_at_call 85; ((with_reducible refine (spec_pick hS.out HR.out (by omega) 16 (by omega) (by omega)).mono ?_); rintro e w' ⟨t, rfl, t0, t1, hr, hg⟩; replace HX := Aside0.mk (blk_grown HX.out hg (by intro e; have := Option.some.inj e; omega)); replace HC := Aside0.mk (blk_grown HC.out hg (by intro e; have := Option.some.inj e; omega)); replace HV := Aside0.mk (gthen HV.out hg); replace HR := Aside0.mk hr; clear hr hg))
  go_cut [] (fun wc => ∃ (z : Tm) (p2 : Int), tNear z ∧ p1 ≤ p2 ∧ p2 ≤ p1 + 2 ∧ Aside0 (wc.heap[X]? = some (.cells #[.int .i64 z.f0, .int .i64 z.f1] 34 (0, 0))) ∧ Aside0 (wc.heap[W.heap.size]? = some (.cells #[.int .i64 0, .int .i64 0] 34 (0, 0))) ∧ Aside0 (Rd w0 rb s p2 wc) ∧ Aside0 (W.grownBy wc (some rb)))
  case first =>
    by_cases ht0 : t = 0
    · subst ht0
      go_wp2_with (go_at_call 85; ((with_reducible refine (spec_pick hS.out (HR.out.alloc (.cells #[.int .i64 (-1), .int .i64 8] 3)) (by omega) 2 (by omega) (by omega)).mono ?_); rintro e w3 ⟨j, rfl, j0, j1, hr, hg⟩; obtain ⟨m, rfl⟩ := Int.eq_ofNat_of_zero_le j0; obtain ⟨z, hz, hzz⟩ := lit2 (blk_grown (blk_new w' (.cells #[.int .i64 (-1), .int .i64 8] 3)) hg (by have := HR.out.lt; intro e; have := Option.some.inj e; omega)) m (by omega); have HX3 := Aside0.mk (blk_grown (blk_alloc HX.out (.cells #[.int .i64 (-1), .int .i64 8] 3)) hg (by intro e; exact hrX (Option.some.inj e).symm)); have HC3 := Aside0.mk (blk_grown (blk_alloc HC.out (.cells #[.int .i64 (-1), .int .i64 8] 3)) hg (by intro e; have := Option.some.inj e; omega)); have HV3 := Aside0.mk (gthen (grownBy_after HV.out (below_alloc (Below.refl _ _) (.cells #[.int .i64 (-1), .int .i64 8] 3))) hg); have HR3 := Aside0.mk hr; have kx : w3.cell? ⟨X, 0, none⟩ = some (.int .i64 a) := blk_cell HX3.out 0; have kf := blk_fz HX3.out 0; clear hr hg))
      go_meet
      case rel => exact ⟨⟨z, b⟩, p1 + 1 + 1, by unfold tNear; rcases hzz with rfl | rfl <;> (simp only; omega), by omega, by omega, ⟨by simpa using blk_set HX3.out 0 (.int .i64 z)⟩, ⟨blk_far HC3.out (by show W.heap.size ≠ X; omega) _⟩, ⟨HR3.out.far hrX (by show w0.heap.size ≤ X; omega) _⟩, ⟨set_grownX (by show W.heap.size ≤ X; omega) HV3.out _⟩⟩
    · by_cases ht1 : t = 1
      · subst ht1
        go_wp2_with (go_at_call 85; ((with_reducible refine (spec_pick hS.out (HR.out.alloc (.cells #[.int .i64 (-1), .int .i64 8] 3)) (by omega) 2 (by omega) (by omega)).mono ?_); rintro e w3 ⟨j, rfl, j0, j1, hr, hg⟩; obtain ⟨m, rfl⟩ := Int.eq_ofNat_of_zero_le j0; obtain ⟨z, hz, hzz⟩ := lit2 (blk_grown (blk_new w' (.cells #[.int .i64 (-1), .int .i64 8] 3)) hg (by have := HR.out.lt; intro e; have := Option.some.inj e; omega)) m (by omega); have HX3 := Aside0.mk (blk_grown (blk_alloc HX.out (.cells #[.int .i64 (-1), .int .i64 8] 3)) hg (by intro e; exact hrX (Option.some.inj e).symm)); have HC3 := Aside0.mk (blk_grown (blk_alloc HC.out (.cells #[.int .i64 (-1), .int .i64 8] 3)) hg (by intro e; have := Option.some.inj e; omega)); have HV3 := Aside0.mk (gthen (grownBy_after HV.out (below_alloc (Below.refl _ _) (.cells #[.int .i64 (-1), .int .i64 8] 3))) hg); have HR3 := Aside0.mk hr; have kx : w3.cell? ⟨X, 1, none⟩ = some (.int .i64 b) := blk_cell HX3.out 1; have kf := blk_fz HX3.out 1; clear hr hg))
        go_meet
        case rel => exact ⟨⟨a, z⟩, p1 + 1 + 1, by unfold tNear; rcases hzz with rfl | rfl <;> (simp only; omega), by omega, by omega, ⟨by simpa using blk_set HX3.out 1 (.int .i64 z)⟩, ⟨blk_far HC3.out (by show W.heap.size ≠ X; omega) _⟩, ⟨HR3.out.far hrX (by show w0.heap.size ≤ X; omega) _⟩, ⟨set_grownX (by show W.heap.size ≤ X; omega) HV3.out _⟩⟩
      · have q0 : (t == 0) = false := by simp [ht0]
        have q1 : (t == 1) = false := by simp [ht1]
        go_wp2
        go_meet
        case rel => exact ⟨⟨a, b⟩, p1 + 1, by unfold tNear; simp only; omega, by omega, by omega, HX, HC, HR, HV⟩
  case rest =>
    clear HX HC HR HV
    obtain ⟨z, p2, hz, hp2, hp3, HX, HC, HR, HV⟩ := hcut
    have c0 := blk_cell HX.out 0
    have c1 := blk_cell HX.out 1
    have k0 := blk_cell HC.out 0
    have k1 := blk_cell HC.out 1
    have kf0 := blk_fz HC.out 0
    have kf1 := blk_fz HC.out 1
    go_at_K
    go_wp2
    refine ret_cell (p := 2) (g := W.heap.size) rfl rfl rfl (blk2 HC.out _ _) Try.underlying34 rfl (by kernel_rfl) ?_
    exact ⟨z, rfl, hz, p2, by omega, by omega, (HR.out.far (by show rb ≠ W.heap.size; omega) (by show w0.heap.size ≤ W.heap.size; omega) _).far (by show rb ≠ W.heap.size; omega) (by show w0.heap.size ≤ W.heap.size; omega) _, set_grown _ _ _ (Nat.le_refl _) (set_grown _ _ _ (Nat.le_refl _) HV.out)⟩
end Go.Proofs.Ytlmglffdmoklcaa.X

/-! ## DrFt -/
namespace Go.Proofs.Ytlmglffdmoklcaa.X
open Go.RowKit Go.Proofs.YtlmglffdmoklcaaW.PrintWords
set_option linter.unusedVariables false
set_option linter.unusedSimpArgs false

section
variable {P : Program} {ops : Array Oper} {rest : List Oper} {o : Oper} {a : Act} {Q : Exit → Act → World → Prop}
/-- out[k].f = u, one cell of the element -/
theorem storeR1 {w0 W : World} {base : Nat} (hN : o.dst = none) (hgd : o.guard = none) {t : TypeId} {p x : Operand} (ho : o.op = .store t p x) {e g n cap o' : Nat} (k j : Nat) {xs : List Rw} (x0 x' : Rw) (u : Int) {ok : Nat → Prop}
    (haddr : a.eval p = .pointer (some ⟨g, o', none⟩)) (hoff : o' = k * 5 + j) (hu : a.eval x = .int .i64 u) (ht : (P.info? t).map (·.size) = some 1)
    (HO : kRw.R e W base ok (.slice (some ⟨g, 0, none⟩) n cap) xs) (hx0 : xs[k]? = some x0) (hi : k < n) (hj : j < 5) (hx : vRw x' = (vRw x0).take j ++ [.int .i64 u] ++ (vRw x0).drop (j + 1)) (HB : Below base w0 W)
    (h : ∀ w1, kRw.R e w1 base ok (.slice (some ⟨g, 0, none⟩) n cap) (xs.set k x') → Below base w0 w1 → W.grownBy w1 (some g) → wpList P ops Q rest a w1) : wpList P ops Q (o :: rest) a W := by
  have hl : k < xs.length := (List.getElem?_eq_some_iff.1 hx0).1
  obtain ⟨c, hcl, hM, hcc, _⟩ := Kd.R_elem HO x0 (k : Int) (by omega) (by omega)
  simp only [Int.toNat_natCast] at hcc hM
  have e0 : xs.getD k x0 = x0 := by simp [List.getD, hx0]
  rw [e0] at hM
  have ec := kRw_M.1 hM
  subst ec
  refine Kd.R_store kRw base hN hgd t p x ho e (k : Int) j _ x' _ [.int .i64 u] (vRw x0) ok (fun _ => False) haddr (by rw [Int.toNat_natCast]; exact hoff) rfl (by rw [hu]; rfl) ht (fun q hq => by simp at hq; subst hq; rfl) HO (by omega) (by omega) hcl (by simpa using hcc) (by show j + 1 ≤ 5; omega) ?_ (fun _ hq => hq.elim) HB (by simpa using h)
  exact kRw_M.2 hx.symm
end
end Go.Proofs.Ytlmglffdmoklcaa.X

/-! ## Bt2 -/
namespace Go.Proofs.Ytlmglffdmoklcaa.X
open Go.RowKit Go.Proofs.YtlmglffdmoklcaaW.PrintWords
set_option linter.unusedVariables false
set_option linter.unusedSimpArgs false

theorem neg_in {r : Rw} (h : rowOk r = true) : rowOk (neg r) = true ∧ neg r = { r with f3 := -r.f3 } := by
  have := rowOk_in h
  have ew : wrap64 (-r.f3) = -r.f3 := by unfold wrap64; omega
  unfold neg
  rw [ew]
  simp only [rowOk, tOk, Bool.and_eq_true, decide_eq_true_eq, and_true]
  omega
theorem neg_ok {l : List Rw} (h : ∀ r ∈ l, rowOk r = true) : ∀ r ∈ l.map neg, rowOk r = true := fun y hy => by
  obtain ⟨r, hr, rfl⟩ := List.mem_map.1 hy
  exact (neg_in (h r hr)).1
set_option maxRecDepth 100000 in
set_option maxHeartbeats 2000000 in
theorem impl_BatchOf (v : Value) (l : List Rw) (w : World) (h : Sl kRw w v l) : Calls Try.prog 25 #[v] w (RetR kRw 69 w (batchOf l)) := by
  have HS := Aside0.mk h
  obtain ⟨A, c_, rfl, HC, hr⟩ := h
  have hm := Kd.C_max hr
  have HR := Aside0.mk hr
  clear hr
  cases hs : rowsOk l
  · have HB := Aside0.mk (Below.refl w.heap.size w)
    go_enter Try.func25, Try.ntmps25
    go_wp2_with (go_at_call 70; ((with_reducible refine (impl_RowsOk _ l _ (HS.out.below HB.out)).mono ?_); rintro e w' ⟨rfl, hb⟩; replace HB := Aside0.mk (bthen HB.out hb); clear hb))
    go_ret
    exact RetR.mk (by rw [batchOf, hs]; exact Kd.R_nil _ _ _ _ _) HB.out
  · obtain ⟨a1, a2⟩ := rowsOk_all hs
    have hfit := Aside0.mk (rowsOk_fit a2)
    clear a2
    have HB := Aside0.mk (Below.refl w.heap.size w)
    go_enter Try.func25, Try.ntmps25
    go_wp2_with (first
      | (go_at_call 70; ((with_reducible refine (impl_RowsOk _ l _ (HS.out.below HB.out)).mono ?_); rintro e w' ⟨rfl, hb⟩; replace HB := Aside0.mk (bthen HB.out hb); clear hb))
      | (go_at_call 71; ((with_reducible refine (impl_batch _ l _ (HS.out.below HB.out) hfit.out (by omega)).mono ?_); rintro e w' ⟨u2, rfl, hr, hb⟩; have HF2 := Aside0.mk (Kd.R_lower hr HB.out.size); replace HB := Aside0.mk (bthen HB.out hb); clear hr hb)))
    go_ret
    exact RetR.mk (by rw [batchOf, hs]; exact HF2.out) HB.out
set_option maxRecDepth 100000 in
set_option maxHeartbeats 2000000 in
theorem impl_negated (v : Value) (l : List Rw) (w : World) (h : Sl kRw w v l) (hl1 : l.length ≤ 1000000) : Calls Try.prog 72 #[v] w (RetR kRw 69 w (l.map neg)) := by
  have HS := Aside0.mk h
  obtain ⟨A, c_, rfl, HC, hr⟩ := h
  have hm := Kd.C_max hr
  have HR := Aside0.mk hr
  clear hr
  have HN := Aside0.mk (R_none (d := kRw) (e := 69) (base := w.heap.size) (ok := okT) (blk_new w (.cells #[] 69)) (Nat.le_refl _) trivial)
  have HB := Aside0.mk (Below.refl w.heap.size w)
  go_enter Try.func72, Try.ntmps72
  replace HB := Aside0.mk (below_alloc HB.out (.cells #[] 69))
  go_upto_region 2 with (at_builtin; refine appsRw (w0 := w) (base := w.heap.size) (xs := []) (ys := l) (ok := okT) rfl rfl (HS.out.below HB.out) HN.out (fun _ _ => trivial) HB.out HB.out.size (by first | omega | (simp; omega)) ?_; intro v1 w' hr1 hb1 hg1 ha1; have HO := Aside0.mk hr1; replace HB := Aside0.mk hb1; clear hr1 hb1 hg1 ha1)
  rw [List.nil_append] at HO
  obtain ⟨A3, c3, rfl, hc3, hC3⟩ := Sl.of_R HO.out
  clear hC3
  go_wp2
  go_loopw [10] (fun i wr => ∃ (k : Nat), k ≤ l.length ∧ i = .int .i64 k ∧ Aside0 (kRw.R 69 wr w.heap.size okT (.slice A3 l.length c3) ((l.take k).map neg ++ l.drop k)) ∧ Aside0 (Below w.heap.size w wr)) (fun i _ => l.length - (intOf i).toNat)
  case atStart => exact ⟨0, Nat.zero_le _, rfl, by simpa using HO, HB⟩
  case round =>
    clear HB HO HN
    obtain ⟨k, hk, rfl, HO, HB⟩ := hrel
    by_cases hlt : k < l.length
    · obtain ⟨g, cap, e, hg1, hg2⟩ := formR HO.out (n := l.length) (len_take neg hk) (by omega)
      cases e
      obtain ⟨x, hx⟩ : ∃ x, l[k]? = some x := ⟨_, List.getElem?_eq_getElem hlt⟩
      have hgx := get_take neg hx
      have HX := Aside0.mk hx
      obtain ⟨ad, x', e, HX', h0, h1, h2, h3, h4⟩ := rdRw (Kd.R_reads' HO.out).2.2 (Below.refl _ _) (k := k) (by rw [len_take neg hk]; exact hlt)
      cases e
      have ex : x' = x := Option.some.inj (HX'.out.symm.trans hgx)
      subst ex
      have h4' : wr.cell? ⟨g, k * 5 + 4, none⟩ = some (.int .i64 x'.f3) := by rw [add_plain] at h4; exact h4
      clear h0 h1 h2 h3 h4 hx
      go_wp2_with (refine storeR1 (base := w.heap.size) rfl rfl rfl k 4 x' (neg x') (wrap64 (-x'.f3)) (by first | rfl | simp) (by first | rfl | omega) (by first | rfl | (simp [*]; done)) (by kernel_rfl) HO.out hgx hlt (by decide) rfl HB.out ?_; intro w1 hr1 hb1 hg1; have HO2 := Aside0.mk hr1; replace HB := Aside0.mk hb1; clear hr1 hb1 hg1)
      go_roundw
      case rel => exact ⟨k + 1, by omega, by go_num, ⟨by rw [← set_take neg HX.out]; exact HO2.out⟩, HB⟩
      case measure => simp [intOf]; omega
    · obtain rfl : k = l.length := by omega
      rw [List.take_length, List.drop_length, List.append_nil] at HO
      go_wp2
      go_ret
      exact RetR.mk HO.out HB.out
set_option maxRecDepth 100000 in
set_option maxHeartbeats 2000000 in
theorem impl_BatchLess (v : Value) (l : List Rw) (w : World) (h : Sl kRw w v l) : Calls Try.prog 16 #[v] w (RetR kRw 69 w (batchLess l)) := by
  have HS := Aside0.mk h
  obtain ⟨A, c_, rfl, HC, hr⟩ := h
  have hm := Kd.C_max hr
  have HR := Aside0.mk hr
  clear hr
  cases hs : rowsOk l
  · have HB := Aside0.mk (Below.refl w.heap.size w)
    go_enter Try.func16, Try.ntmps16
    go_wp2_with (go_at_call 70; ((with_reducible refine (impl_RowsOk _ l _ (HS.out.below HB.out)).mono ?_); rintro e w' ⟨rfl, hb⟩; replace HB := Aside0.mk (bthen HB.out hb); clear hb))
    go_ret
    exact RetR.mk (by rw [batchLess, hs]; exact Kd.R_nil _ _ _ _ _) HB.out
  · obtain ⟨a1, a2⟩ := rowsOk_all hs
    have hfit := Aside0.mk (rowsOk_fit (neg_ok a2))
    clear a2
    have HB := Aside0.mk (Below.refl w.heap.size w)
    go_enter Try.func16, Try.ntmps16
    go_wp2_with (first
      | (go_at_call 70; ((with_reducible refine (impl_RowsOk _ l _ (HS.out.below HB.out)).mono ?_); rintro e w' ⟨rfl, hb⟩; replace HB := Aside0.mk (bthen HB.out hb); clear hb))
      | (go_at_call 72; ((with_reducible refine (impl_negated _ l _ (HS.out.below HB.out) (by omega)).mono ?_); rintro e w' ⟨u, rfl, hr, hb⟩; have HF := Aside0.mk (Kd.R_lower hr HB.out.size); replace HB := Aside0.mk (bthen HB.out hb); clear hr hb))
      | (go_at_call 71; ((with_reducible refine (impl_batch _ (l.map neg) _ (Sl.of_R HF.out) hfit.out (by rw [List.length_map]; omega)).mono ?_); rintro e w' ⟨u2, rfl, hr, hb⟩; have HF2 := Aside0.mk (Kd.R_lower hr HB.out.size); replace HB := Aside0.mk (bthen HB.out hb); clear hr hb)))
    go_ret
    exact RetR.mk (by rw [batchLess, hs]; exact HF2.out) HB.out
set_option maxRecDepth 100000 in
set_option maxHeartbeats 2000000 in
theorem spec_BatchOf (v : Value) (l : List Rw) (w : World) (h : Sl kRw w v l) : Calls Try.prog 167 #[v] w fun e w' => ∃ u, e = .returned u ∧ Sl kRw w' u (batchOf l) ∧ Below w.heap.size w w' := by
  have HS := Aside0.mk h
  obtain ⟨A, c_, rfl, HC, hr⟩ := h
  have hm := Kd.C_max hr
  have HR := Aside0.mk hr
  clear hr
  cases hs : rowsOk l
  · have HB := Aside0.mk (Below.refl w.heap.size w)
    go_enter Try.func167, Try.ntmps167
    go_wp2_with (go_at_call 19; ((with_reducible refine (spec_RowsOk _ l _ (HS.out.below HB.out)).mono ?_); rintro e wb ⟨rfl, hb⟩; replace HB := Aside0.mk (bthen HB.out hb); clear hb))
    go_ret
    exact ⟨_, rfl, by rw [batchOf, hs]; exact Sl.of_R (R_none (e := 69) (ok := okT) (blk_new wb _) (Nat.le_refl _) trivial), below_alloc HB.out _⟩
  · obtain ⟨a1, a2⟩ := rowsOk_all hs
    clear a2
    have HB := Aside0.mk (Below.refl w.heap.size w)
    go_enter Try.func167, Try.ntmps167
    go_wp2_with (first
      | (go_at_call 19; ((with_reducible refine (spec_RowsOk _ l _ (HS.out.below HB.out)).mono ?_); rintro e w' ⟨rfl, hb⟩; replace HB := Aside0.mk (bthen HB.out hb); clear hb))
      | (go_at_call 74; ((with_reducible refine (spec_l2Sum _ l _ (HS.out.below HB.out) (by omega)).mono ?_); rintro e w' ⟨u, rfl, hr, hb⟩; have HF := Aside0.mk (Kd.R_lower hr HB.out.size); replace HB := Aside0.mk (bthen HB.out hb); clear hr hb))
      | (go_at_call 73; ((with_reducible refine (spec_l2Fit _ (sum l) _ (Sl.of_R HF.out)).mono ?_); rintro e w' ⟨u2, rfl, hr, hb⟩; have HF2 := Aside0.mk hr; replace HB := Aside0.mk (bthen HB.out hb); clear hr hb)))
    go_ret
    exact ⟨_, rfl, by rw [batchOf, hs]; exact HF2.out, HB.out⟩
theorem fit_nil : fit (sum []) = [] := rfl
set_option maxRecDepth 100000 in
set_option maxHeartbeats 4000000 in
theorem spec_BatchLess (v : Value) (l : List Rw) (w : World) (h : Sl kRw w v l) : Calls Try.prog 18 #[v] w fun e w' => ∃ u, e = .returned u ∧ Sl kRw w' u (batchLess l) ∧ Below w.heap.size w w' := by
  have HS := Aside0.mk h
  obtain ⟨A, c_, rfl, HC, hr⟩ := h
  have hm := Kd.C_max hr
  have HR := Aside0.mk hr
  clear hr
  have HN := Aside0.mk (R_none (d := kRw) (e := 69) (base := w.heap.size) (ok := okT) (blk_new w (.cells #[] 69)) (Nat.le_refl _) trivial)
  cases hs : rowsOk l
  · have HSF := Aside0.mk hs
    have HB := Aside0.mk (Below.refl w.heap.size w)
    go_enter Try.func18, Try.ntmps18
    replace HB := Aside0.mk (below_alloc HB.out (.cells #[] 69))
    go_wp2
    go_loopw [3, 4] (fun o i wr => i = .int .i64 0 ∧ Aside0 (kRw.R 69 wr w.heap.size okT o []) ∧ Aside0 (Below w.heap.size w wr)) (fun _ i _ => 1)
    case atStart => exact ⟨rfl, HN, HB⟩
    case round =>
      clear HB HN
      obtain ⟨rfl, HO, HB⟩ := hrel
      by_cases hlt : 0 < l.length
      · have hlt2 : (0 : Int) < (l.length : Int) := by omega
        go_wp2_with (first
          | (go_at_call 19; ((with_reducible refine (spec_RowsOk _ l _ (HS.out.below HB.out)).mono ?_); rintro e w' ⟨rfl, hb⟩; replace HB := Aside0.mk (bthen HB.out hb); replace HO := Aside0.mk (Kd.R_below HO.out hb); clear hb))
          | (go_at_call 74; ((with_reducible refine (spec_l2Sum _ [] _ (Sl.of_R HO.out) (by simp)).mono ?_); rintro e w' ⟨u, rfl, hr, hb⟩; have HF := Aside0.mk (Kd.R_lower hr HB.out.size); replace HB := Aside0.mk (bthen HB.out hb); clear hr hb))
          | (go_at_call 73; ((with_reducible refine (spec_l2Fit _ (sum []) _ (Sl.of_R HF.out)).mono ?_); rintro e w' ⟨u2, rfl, hr, hb⟩; have HF2 := Aside0.mk hr; replace HB := Aside0.mk (bthen HB.out hb); clear hr hb)))
        go_ret
        exact ⟨_, rfl, by rw [batchLess, HSF.out]; exact HF2.out, HB.out⟩
      · have hlt2 : ¬ (0 : Int) < (l.length : Int) := by omega
        go_wp2_with (first
          | (go_at_call 74; ((with_reducible refine (spec_l2Sum _ [] _ (Sl.of_R HO.out) (by simp)).mono ?_); rintro e w' ⟨u, rfl, hr, hb⟩; have HF := Aside0.mk (Kd.R_lower hr HB.out.size); replace HB := Aside0.mk (bthen HB.out hb); clear hr hb))
          | (go_at_call 73; ((with_reducible refine (spec_l2Fit _ (sum []) _ (Sl.of_R HF.out)).mono ?_); rintro e w' ⟨u2, rfl, hr, hb⟩; have HF2 := Aside0.mk hr; replace HB := Aside0.mk (bthen HB.out hb); clear hr hb)))
        go_ret
        exact ⟨_, rfl, by rw [batchLess, HSF.out]; exact HF2.out, HB.out⟩
  · obtain ⟨a1, a2⟩ := rowsOk_all hs
    clear a2
    have HSF := Aside0.mk hs
    have HB := Aside0.mk (Below.refl w.heap.size w)
    go_enter Try.func18, Try.ntmps18
    replace HB := Aside0.mk (below_alloc HB.out (.cells #[] 69))
    go_wp2
    go_loopw [3, 4] (fun o i wr => ∃ k : Nat, k ≤ l.length ∧ i = .int .i64 k ∧ Aside0 (kRw.R 69 wr w.heap.size okT o ((l.take k).map neg)) ∧ Aside0 (Below w.heap.size w wr)) (fun _ i _ => l.length - (intOf i).toNat)
    case atStart => exact ⟨0, Nat.zero_le _, rfl, HN, HB⟩
    case round =>
      clear HB HN
      obtain ⟨k, hk, rfl, HO, HB⟩ := hrel
      have hpl : ((l.take k).map neg).length ≤ 400 := by rw [List.length_map, List.length_take]; omega
      by_cases hlt : k < l.length
      · obtain ⟨ad, x, e, HX, h0, h1, h2, h3, h4⟩ := rdRw HR.out HB.out hlt
        cases e
        go_upto_region 6 with (go_at_call 19; ((with_reducible refine (spec_RowsOk _ l _ (HS.out.below HB.out)).mono ?_); rintro e wa ⟨rfl, hb⟩; replace HB := Aside0.mk (bthen HB.out hb); replace HO := Aside0.mk (Kd.R_below HO.out hb); replace h0 := pw_cell_below hb h0; replace h1 := pw_cell_below hb h1; replace h2 := pw_cell_below hb h2; replace h3 := pw_cell_below hb h3; replace h4 := pw_cell_below hb h4; clear hb))
        refine name_world fun W hW => ?_
        have B0 : W.heap[wa.heap.size]? = some (.cells #[.int .i64 x.f0, .int .i64 x.f1, .int .i64 x.f2.f0, .int .i64 x.f2.f1, .int .i64 x.f3] 69 (0, 0)) := by rw [hW]; exact blk_new wa _
        have hb1 : Below wa.heap.size wa W := by rw [hW]; repeat (first | exact Below.refl _ _ | apply below_alloc | refine below_set ?_ (by simp))
        clear hW
        generalize hX : wa.heap.size = X at B0 ⊢
        have hws := HB.out.size
        have hwX : w.heap.size ≤ X := by omega
        have HO1 := Aside0.mk (Kd.R_below (R_new (ok' := fun q => q ≠ X) HO.out (X := X) (by omega) (fun q _ h => by omega)) hb1)
        replace HB := Aside0.mk (bthen HB.out hb1)
        have c4 := blk_cell B0 4
        have cf := blk_fz B0 4
        clear h0 h1 h2 h3 h4 hb1 hX HO
        go_upto_region 7 with fail
        refine name_world fun W2 hW2 => ?_
        have B2 : W2.heap[X]? = some (.cells #[.int .i64 (neg x).f0, .int .i64 (neg x).f1, .int .i64 (neg x).f2.f0, .int .i64 (neg x).f2.f1, .int .i64 (neg x).f3] 69 (0, 0)) := by rw [hW2]; exact (show _ = some (Obj.cells #[.int .i64 x.f0, .int .i64 x.f1, .int .i64 x.f2.f0, .int .i64 x.f2.f1, .int .i64 (wrap64 (-x.f3))] 69 (0, 0)) by simpa using blk_set B0 4 (.int .i64 (wrap64 (-x.f3))))
        have HO2 : Aside0 (kRw.R 69 W2 w.heap.size (fun q => q ≠ X) _ _) := ⟨by rw [hW2]; exact Kd.R_far HO1.out (fun q hq => hq) _⟩
        have HB2 : Aside0 (Below w.heap.size w W2) := ⟨by rw [hW2]; exact below_set HB.out hwX⟩
        have hX2 := blk_lt B2
        clear hW2 c4 cf B0 HO1 HB
        have HNX := Aside0.mk (show neg x = neg x from rfl)
        obtain ⟨y, hy⟩ : ∃ y, y = neg x := ⟨_, rfl⟩
        rw [← hy] at B2
        have HY := Aside0.mk hy
        clear hy HNX
        have d0 : W2.cell? ⟨X, 0, none⟩ = some (.int .i64 y.f0) := blk_cell B2 0
        have d1 : W2.cell? ⟨X, 1, none⟩ = some (.int .i64 y.f1) := blk_cell B2 1
        have d2 : W2.cell? ⟨X, 2, none⟩ = some (.int .i64 y.f2.f0) := blk_cell B2 2
        have d3 : W2.cell? ⟨X, 3, none⟩ = some (.int .i64 y.f2.f1) := blk_cell B2 3
        have d4 : W2.cell? ⟨X, 4, none⟩ = some (.int .i64 y.f3) := blk_cell B2 4
        go_wp2_with (at_builtin; refine appRw (w0 := w) (base := w.heap.size) (xs := (l.take k).map neg) (ok := fun q => q ≠ X) rfl rfl rfl HO2.out (fun q hq => by omega) HB2.out (by have := HB2.out.size; omega) (by omega) ?_; intro v1 w1 hr1 hb1 hg1 ha1; have HO3 := Aside0.mk hr1; have HG_ := Aside0.mk hg1; replace HB2 := Aside0.mk hb1; clear hr1 hb1 hg1 ha1)
        go_roundw
        case rel => exact ⟨k + 1, by omega, by go_num, ⟨by rw [take_snoc HX.out, List.map_append, List.map_singleton, ← HY.out]; exact Kd.R_mono HO3.out (fun _ _ => trivial)⟩, HB2⟩
        case measure => simp [intOf]; omega
      · obtain rfl : k = l.length := by omega
        rw [List.take_length] at HO hpl
        go_wp2_with (first
          | (go_at_call 74; ((with_reducible refine (spec_l2Sum _ (l.map neg) _ (Sl.of_R HO.out) (by omega)).mono ?_); rintro e w' ⟨u, rfl, hr, hb⟩; have HF := Aside0.mk (Kd.R_lower hr HB.out.size); replace HB := Aside0.mk (bthen HB.out hb); clear hr hb))
          | (go_at_call 73; ((with_reducible refine (spec_l2Fit _ (sum (l.map neg)) _ (Sl.of_R HF.out)).mono ?_); rintro e w' ⟨u2, rfl, hr, hb⟩; have HF2 := Aside0.mk hr; replace HB := Aside0.mk (bthen HB.out hb); clear hr hb)))
        go_ret
        exact ⟨_, rfl, by rw [batchLess, HSF.out]; exact HF2.out, HB.out⟩
end Go.Proofs.Ytlmglffdmoklcaa.X
