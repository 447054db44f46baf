/- Draws of times, some spoilt; rows and a time. Conditions: a reader of at most 2000 bytes, few draws so far. -/
import Derived.Test.YtdppnipodndcpaaXDrRow3
namespace Go.Proofs.Ytdppnipodndcpaa.X
open Go.RowKit Go.Proofs.YtdppnipodndcpaaW.PrintWords
set_option linter.unusedVariables false
set_option linter.unusedSimpArgs false

/-- two results, the second a struct's cell -/
theorem ret_tmp_cell {P : Program} {fn : Func} {R : Ending → World → Prop} {a : Act} {w : World} {t p : Tmp} {ty : TypeId} {g : Nat} {cs : Array Value} {d : TypeDesc} (h : fn.results = #[.tmp t, .cell p ty]) (hp : a.tmps.getD p undef = .pointer (some ⟨g, 0, none⟩)) (hd : a.defers = [])
    (hg : w.heap[g]? = some (.cells cs ty (0, 0))) (hu : P.underlying ty = some d) (hk : (match d with | .struct _ | .array _ _ => true | _ => false) = true) (hi : (P.info? ty).map (·.size) = some cs.size) (hR : R (.returned (.tuple #[a.tmps.getD t undef, .agg cs])) w) : bodyPost P fn R .ret a w := by
  refine bodyPost_ret ?_ hd hR
  have hp' : a.tmps[p]?.getD undef = .pointer (some ⟨g, 0, none⟩) := by simpa using hp
  simp [results, h, hp', asAddr, run_loadVar_row w g ty ty cs (0, 0) d hg hu hk hi]
/-- a drawn time, perhaps a spoilt one -/
def tNear (t : Tm) : Prop := -1 ≤ t.f0 ∧ t.f0 ≤ 8 ∧ -1 ≤ t.f1 ∧ t.f1 ≤ 8
set_option maxRecDepth 100000 in
set_option maxHeartbeats 4000000 in
theorem spec_l71Odd {w0 W : World} {rb : Nat} {s : List Int} {p : Int} (hS : Aside0 (RS s)) (h : Rd w0 rb s p W) (hp : p ≤ 800000) :
    Calls Try.prog 112 #[.pointer (some ⟨rb, 0, none⟩)] W fun e W' => ∃ t : Tm, e = .returned (.agg #[.int .i64 t.f0, .int .i64 t.f1]) ∧ tNear t ∧ Adv w0 rb s p 6 W W' := by
  have hbl := h.lt
  have hge := h.ge
  have hbs := h.bel.size
  have hnn := h.nn
  have HR := Aside0.mk (h.alloc (.cells #[.int .i64 0, .int .i64 0] 32))
  have HV := Aside0.mk (alloc_grown W (.cells #[.int .i64 0, .int .i64 0] 32) (some rb))
  have HC := Aside0.mk (blk_new W (.cells #[.int .i64 0, .int .i64 0] 32))
  clear h
  go_enter Try.func112, Try.ntmps112
  go_upto_region 2 with (go_at_call 137; ((with_reducible refine (spec_l71Time hS HR.out (by omega)).mono ?_); rintro e wa ⟨a, b, rfl, ⟨a0, a1, b0, b1⟩, p1, g0, g1, hr1, hg1⟩; replace HC := Aside0.mk (blk_grown HC.out hg1 (by intro e; have := Option.some.inj e; omega)); replace HR := Aside0.mk hr1; replace HV := Aside0.mk (gthen HV.out hg1); clear hr1 hg1))
  have hwa := blk_lt HC.out
  refine name_world fun W1 hW => ?_
  have B0 : W1.heap[wa.heap.size]? = some (.cells #[.int .i64 a, .int .i64 b] 32 (0, 0)) := by rw [hW]; exact blk_new wa _
  have hb1 : Below wa.heap.size wa W1 := by rw [hW]; repeat (first | exact Below.refl _ _ | apply below_alloc | refine below_set ?_ (by simp))
  clear hW
  generalize hX : wa.heap.size = X at B0 ⊢
  have hXl : W.heap.size < X := by omega
  have hrX : rb ≠ X := by omega
  replace HC := Aside0.mk (blk_below HC.out hb1)
  replace HR := Aside0.mk (HR.out.below hb1)
  replace HV := Aside0.mk (grownBy_after HV.out hb1)
  have HX := Aside0.mk B0
  clear B0 hX hb1 hwa
  go_upto_block 0 with (go_at_call 67; ((with_reducible refine (spec_pick hS.out HR.out (by omega) 16 (by omega) (by omega)).mono ?_); rintro e w' ⟨t, rfl, t0, t1, hr, hg⟩; replace HX := Aside0.mk (blk_grown HX.out hg (by intro e; have := Option.some.inj e; omega)); replace HC := Aside0.mk (blk_grown HC.out hg (by intro e; have := Option.some.inj e; omega)); replace HV := Aside0.mk (gthen HV.out hg); replace HR := Aside0.mk hr; clear hr hg))
  go_cut [] (fun wc => ∃ (z : Tm) (p2 : Int), tNear z ∧ p1 ≤ p2 ∧ p2 ≤ p1 + 2 ∧ Aside0 (wc.heap[X]? = some (.cells #[.int .i64 z.f0, .int .i64 z.f1] 32 (0, 0))) ∧ Aside0 (wc.heap[W.heap.size]? = some (.cells #[.int .i64 0, .int .i64 0] 32 (0, 0))) ∧ Aside0 (Rd w0 rb s p2 wc) ∧ Aside0 (W.grownBy wc (some rb)))
  case first =>
    by_cases ht0 : t = 0
    · subst ht0
      go_wp2_with (go_at_call 67; ((with_reducible refine (spec_pick hS.out (HR.out.alloc (.cells #[.int .i64 (-1), .int .i64 8] 3)) (by omega) 2 (by omega) (by omega)).mono ?_); rintro e w3 ⟨j, rfl, j0, j1, hr, hg⟩; obtain ⟨m, rfl⟩ := Int.eq_ofNat_of_zero_le j0; obtain ⟨z, hz, hzz⟩ := lit2 (blk_grown (blk_new w' (.cells #[.int .i64 (-1), .int .i64 8] 3)) hg (by have := HR.out.lt; intro e; have := Option.some.inj e; omega)) m (by omega); have HX3 := Aside0.mk (blk_grown (blk_alloc HX.out (.cells #[.int .i64 (-1), .int .i64 8] 3)) hg (by intro e; exact hrX (Option.some.inj e).symm)); have HC3 := Aside0.mk (blk_grown (blk_alloc HC.out (.cells #[.int .i64 (-1), .int .i64 8] 3)) hg (by intro e; have := Option.some.inj e; omega)); have HV3 := Aside0.mk (gthen (grownBy_after HV.out (below_alloc (Below.refl _ _) (.cells #[.int .i64 (-1), .int .i64 8] 3))) hg); have HR3 := Aside0.mk hr; have kx : w3.cell? ⟨X, 0, none⟩ = some (.int .i64 a) := blk_cell HX3.out 0; have kf := blk_fz HX3.out 0; clear hr hg))
      go_meet
      case rel => exact ⟨⟨z, b⟩, p1 + 1 + 1, by unfold tNear; rcases hzz with rfl | rfl <;> (simp only; omega), by omega, by omega, ⟨by simpa using blk_set HX3.out 0 (.int .i64 z)⟩, ⟨blk_far HC3.out (by show W.heap.size ≠ X; omega) _⟩, ⟨HR3.out.far hrX (by show w0.heap.size ≤ X; omega) _⟩, ⟨set_grownX (by show W.heap.size ≤ X; omega) HV3.out _⟩⟩
    · by_cases ht1 : t = 1
      · subst ht1
        go_wp2_with (go_at_call 67; ((with_reducible refine (spec_pick hS.out (HR.out.alloc (.cells #[.int .i64 (-1), .int .i64 8] 3)) (by omega) 2 (by omega) (by omega)).mono ?_); rintro e w3 ⟨j, rfl, j0, j1, hr, hg⟩; obtain ⟨m, rfl⟩ := Int.eq_ofNat_of_zero_le j0; obtain ⟨z, hz, hzz⟩ := lit2 (blk_grown (blk_new w' (.cells #[.int .i64 (-1), .int .i64 8] 3)) hg (by have := HR.out.lt; intro e; have := Option.some.inj e; omega)) m (by omega); have HX3 := Aside0.mk (blk_grown (blk_alloc HX.out (.cells #[.int .i64 (-1), .int .i64 8] 3)) hg (by intro e; exact hrX (Option.some.inj e).symm)); have HC3 := Aside0.mk (blk_grown (blk_alloc HC.out (.cells #[.int .i64 (-1), .int .i64 8] 3)) hg (by intro e; have := Option.some.inj e; omega)); have HV3 := Aside0.mk (gthen (grownBy_after HV.out (below_alloc (Below.refl _ _) (.cells #[.int .i64 (-1), .int .i64 8] 3))) hg); have HR3 := Aside0.mk hr; have kx : w3.cell? ⟨X, 1, none⟩ = some (.int .i64 b) := blk_cell HX3.out 1; have kf := blk_fz HX3.out 1; clear hr hg))
        go_meet
        case rel => exact ⟨⟨a, z⟩, p1 + 1 + 1, by unfold tNear; rcases hzz with rfl | rfl <;> (simp only; omega), by omega, by omega, ⟨by simpa using blk_set HX3.out 1 (.int .i64 z)⟩, ⟨blk_far HC3.out (by show W.heap.size ≠ X; omega) _⟩, ⟨HR3.out.far hrX (by show w0.heap.size ≤ X; omega) _⟩, ⟨set_grownX (by show W.heap.size ≤ X; omega) HV3.out _⟩⟩
      · have q0 : (t == 0) = false := by simp [ht0]
        have q1 : (t == 1) = false := by simp [ht1]
        go_wp2
        go_meet
        case rel => exact ⟨⟨a, b⟩, p1 + 1, by unfold tNear; simp only; omega, by omega, by omega, HX, HC, HR, HV⟩
  case rest =>
    clear HX HC HR HV
    obtain ⟨z, p2, hz, hp2, hp3, HX, HC, HR, HV⟩ := hcut
    have c0 := blk_cell HX.out 0
    have c1 := blk_cell HX.out 1
    have k0 := blk_cell HC.out 0
    have k1 := blk_cell HC.out 1
    have kf0 := blk_fz HC.out 0
    have kf1 := blk_fz HC.out 1
    go_at_K
    go_wp2
    refine ret_cell (p := 2) (g := W.heap.size) rfl rfl rfl (blk2 HC.out _ _) Try.underlying32 rfl (by kernel_rfl) ?_
    exact ⟨z, rfl, hz, p2, by omega, by omega, (HR.out.far (by show rb ≠ W.heap.size; omega) (by show w0.heap.size ≤ W.heap.size; omega) _).far (by show rb ≠ W.heap.size; omega) (by show w0.heap.size ≤ W.heap.size; omega) _, set_grown _ _ _ (Nat.le_refl _) (set_grown _ _ _ (Nat.le_refl _) HV.out)⟩
/-- drawn rows and a time -/
def RowTP (w : World) (e : Ending) (w' : World) : Prop := ∃ (v : Value) (l : List Rw) (t : Tm), e = .returned (.tuple #[v, .agg #[.int .i64 t.f0, .int .i64 t.f1]]) ∧ Sl kRw w' v l ∧ RowsD l ∧ tNear t ∧ Below w.heap.size w w'
theorem RowTP.mk {w w' : World} {v : Value} {l : List Rw} (t : Tm) (h1 : Sl kRw w' v l) (h3 : RowsD l) (h2 : tNear t) (h5 : Below w.heap.size w w') : RowTP w (.returned (.tuple #[v, .agg #[.int .i64 t.f0, .int .i64 t.f1]])) w' := ⟨v, l, t, rfl, h1, h3, h2, h5⟩
set_option maxRecDepth 100000 in
set_option maxHeartbeats 4000000 in
theorem spec_DrawBatchAt (v : Value) (l : List Int) (w : World) (h : Sl kB w v l) (hb : ∀ x ∈ l, 0 ≤ x ∧ x ≤ 255) : Calls Try.prog 52 #[v] w (RowTP w) := by
  have C1 := spec_l6Open v l (w.alloc (.cells #[.int .i64 0, .int .i64 0] 32)) (h.below (below_alloc (Below.refl _ _) _)) hb
  have HC := Aside0.mk (blk_new w (.cells #[.int .i64 0, .int .i64 0] 32))
  have HB := Aside0.mk (below_alloc (Below.refl w.heap.size w) (.cells #[.int .i64 0, .int .i64 0] 32))
  go_enter Try.func52, Try.ntmps52
  go_upto_region 2 with (go_at_call 65; ((with_reducible refine C1.mono ?_); rintro e wa ⟨rb, s, rfl, hs, hrd, hba⟩; have HS := Aside0.mk hs; have HR := Aside0.mk hrd; have hge := hrd.ge; have hw0 : (w.alloc (.cells #[.int .i64 0, .int .i64 0] 32)).heap.size = w.heap.size + 1 := (by simp); replace HC := Aside0.mk (blk_below HC.out hba); replace HB := Aside0.mk (bthen HB.out hba); clear hs hrd hba))
  clear C1
  have hrb : rb ≠ w.heap.size := by omega
  have hwa := blk_lt HC.out
  clear hw0 hge
  go_wp2_with (first
    | (go_at_call 66; ((with_reducible refine (spec_l71Any (W := wa) HS HR.out (by omega)).mono ?_); rintro e wb ⟨v1, l1, rfl, hr1, hd1, p1, g0, g1, hrb1, hgb⟩; have HD1 := Aside0.mk hd1; have HO1 := Aside0.mk (R_off hr1 HR.out.lt); have HR1 := Aside0.mk hrb1; replace HC := Aside0.mk (blk_grown HC.out hgb (by intro e; exact hrb (Option.some.inj e).symm)); clear hr1 hd1 hrb1 hgb))
    | (go_at_call 112; ((with_reducible refine (spec_l71Odd (W := wb) HS HR1.out (by omega)).mono ?_); rintro e wc ⟨t, rfl, ht, p2, g2, g3, hrc, hgc⟩; have HT := Aside0.mk ht; have HO3 := Aside0.mk (R_pick HO1.out hgc (fun q hq => hq)); have HR2 := Aside0.mk hrc; have HC3 := Aside0.mk (blk_grown HC.out hgc (by intro e; exact hrb (Option.some.inj e).symm)); have k0 := blk_cell HC3.out 0; have k1 := blk_cell HC3.out 1; have kf0 := blk_fz HC3.out 0; have kf1 := blk_fz HC3.out 1; clear ht hrc hgc)))
  refine ret_tmp_cell (t := 2) (p := 3) (g := w.heap.size) rfl rfl rfl (blk2 HC3.out _ _) Try.underlying32 rfl (by kernel_rfl) ?_
  have hbw : Below w.heap.size w wc := by
    have h1 := HR2.out.bel
    refine ⟨h1.os, h1.tape, h1.output, ?_, fun j hj => ?_⟩
    · have := h1.size; simp at this; omega
    · exact (h1.block j (by simp; omega)).trans (Below.heap_alloc w _ j hj)
  exact RowTP.mk t (Sl.of_R (Kd.R_far (Kd.R_far (Kd.R_bound HO3.out) (fun k hk => by have := hk.2.1; show k ≠ w.heap.size; omega) _) (fun k hk => by have := hk.2.1; show k ≠ w.heap.size; omega) _)) HD1.out HT.out (below_set (below_set hbw (Nat.le_refl _)) (Nat.le_refl _))
end Go.Proofs.Ytdppnipodndcpaa.X
