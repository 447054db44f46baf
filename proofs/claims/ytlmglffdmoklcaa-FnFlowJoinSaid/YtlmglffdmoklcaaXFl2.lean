/- The walks of the pairs of changes. Conditions: none. -/
import Derived.Test.YtlmglffdmoklcaaXFl1
namespace Go.Proofs.Ytlmglffdmoklcaa.X
open Go.RowKit Go.Proofs.YtlmglffdmoklcaaW.PrintWords
set_option linter.unusedVariables false
set_option linter.unusedSimpArgs false

def pairR (x y : Rw) : Rw := ⟨x.f0, jval x.f1 y.f1, tJoin x.f2 y.f2, wrap64 (x.f3 * y.f3)⟩
def jrowR (x : Rw) (t : List Rw) : List Rw := (t.filter fun y => decide (x.f0 = y.f0)).map (pairR x)
def pairsR (s t : List Rw) : List Rw := s.flatMap fun x => jrowR x t
def flowJoin (l m : List Rw) : List Rw := if rowsOk l && rowsOk m then fit (sum (pairsR l m)) else []
theorem pairsR_snoc {s : List Rw} {k : Nat} {x : Rw} (hx : s[k]? = some x) (t : List Rw) : pairsR (s.take (k + 1)) t = pairsR (s.take k) t ++ jrowR x t := by
  rw [take_snoc hx]; unfold pairsR; rw [List.flatMap_append]; simp
theorem jrowR_snoc {t : List Rw} {k : Nat} {y : Rw} (hy : t[k]? = some y) (x : Rw) : jrowR x (t.take (k + 1)) = jrowR x (t.take k) ++ (if x.f0 = y.f0 then [pairR x y] else []) := by
  rw [take_snoc hy]; unfold jrowR; rw [List.filter_append, List.map_append]
  by_cases h : x.f0 = y.f0 <;> simp [h]
theorem jrowR_len (x : Rw) (t : List Rw) : (jrowR x t).length ≤ t.length := by unfold jrowR; rw [List.length_map]; exact List.length_filter_le _ _
theorem pairsR_len (t : List Rw) : ∀ s : List Rw, (pairsR s t).length ≤ t.length * s.length := fun s => len_flatMap fun x _ => jrowR_len x t
theorem tJoin_in {s t : Tm} (hs : tOk s = true) (ht : tOk t = true) : tOk (tJoin s t) = true := by
  unfold tJoin; rw [hs, ht]
  simp only [tOk, Bool.and_eq_true, decide_eq_true_eq] at hs ht
  simp only [Bool.and_self, if_true, tOk, tmax, Bool.and_eq_true, decide_eq_true_eq]
  split <;> split <;> omega
/-- what a pair of rows in bounds is -/
theorem pairR_in {x y : Rw} (hx : rowOk x = true) (hy : rowOk y = true) : 0 ≤ (pairR x y).f0 ∧ (pairR x y).f0 ≤ 3 ∧ 0 ≤ (pairR x y).f1 ∧ (pairR x y).f1 ≤ 99 ∧ tOk (pairR x y).f2 = true ∧ (pairR x y).f3 = x.f3 * y.f3 ∧ (((pairR x y).f3).natAbs : Int) ≤ 9999800001 := by
  have a := rowOk_in hx
  have b := rowOk_in hy
  have hm : ((x.f3 * y.f3).natAbs : Int) ≤ 9999800001 := by
    rw [Int.natAbs_mul]
    have h1 : x.f3.natAbs ≤ 99999 := by omega
    have h2 : y.f3.natAbs ≤ 99999 := by omega
    have := Nat.mul_le_mul h1 h2
    omega
  have hw : wrap64 (x.f3 * y.f3) = x.f3 * y.f3 := wrap_abs (by omega)
  have ht : tOk (tJoin x.f2 y.f2) = true := tJoin_in (by simp only [rowOk, Bool.and_eq_true] at hx; exact hx.1.1.2) (by simp only [rowOk, Bool.and_eq_true] at hy; exact hy.1.1.2)
  have hj := jval_eq a.2.1.1 a.2.1.2 b.2.1.1 b.2.1.2
  unfold pairR
  simp only
  rw [hw, hj]
  exact ⟨a.1.1, a.1.2, by omega, by omega, ht, rfl, hm⟩
theorem pairsR_fit {s t : List Rw} (hs : ∀ r ∈ s, rowOk r = true) (ht : ∀ r ∈ t, rowOk r = true) : RwFit (pairsR s t) := RwFit.of fun z hz => by
  obtain ⟨x, hx, hz⟩ := List.mem_flatMap.1 hz
  obtain ⟨y, hy, rfl⟩ := List.mem_map.1 hz
  obtain ⟨h0, h1, h2, h3, h4, h5, h6⟩ := pairR_in (hs x hx) (ht y (List.mem_filter.1 hy).1)
  simp only [tOk, Bool.and_eq_true, decide_eq_true_eq] at h4
  omega
set_option maxRecDepth 100000 in
set_option maxHeartbeats 4000000 in
theorem impl_flowJoin (v v2 : Value) (s t : List Rw) (w : World) (h : Sl kRw w v s) (h2 : Sl kRw w v2 t) (hs0 : ∀ r ∈ s, rowOk r = true) (ht0 : ∀ r ∈ t, rowOk r = true) (hl1 : s.length ≤ 400) (hl2 : t.length ≤ 400) : Calls Try.prog 81 #[v, v2] w (BatchP w (sum (pairsR s t))) := by
  obtain ⟨A, c_, rfl, HC, hr⟩ := h
  have hm := Kd.C_max hr
  have HR := Aside0.mk hr
  clear hr
  obtain ⟨A2, c2_, rfl, HC2, hr2⟩ := h2
  have hm2 := Kd.C_max hr2
  have HR2 := Aside0.mk hr2
  clear hr2
  have hfit := Aside0.mk (pairsR_fit hs0 ht0)
  clear hs0 ht0
  have HB := Aside0.mk (Below.refl w.heap.size w)
  go_enter Try.func81, Try.ntmps81
  go_wp2
  go_loopw [6, 14] (fun o i wr => ∃ (k : Nat), k ≤ s.length ∧ i = .int .i64 k ∧ Aside0 (kRw.R 69 wr w.heap.size okT o (pairsR (s.take k) t)) ∧ Aside0 (Below w.heap.size w wr)) (fun _ i _ => s.length - (intOf i).toNat)
  case atStart => exact ⟨0, Nat.zero_le _, rfl, ⟨R_none (blk_new w _) (Nat.le_refl _) trivial⟩, ⟨below_alloc HB.out _⟩⟩
  case round =>
    clear HB
    obtain ⟨k, hk, rfl, HO, HB⟩ := hrel
    by_cases hlt : k < s.length
    · obtain ⟨ad, x, e, HX, h0, h1, h2, h3, h4⟩ := rdRw HR.out HB.out hlt
      cases e
      have hws := HB.out.size
      have hpl : (pairsR (s.take k) t).length ≤ 400 * 400 := Nat.le_trans (pairsR_len t (s.take k)) (Nat.mul_le_mul hl2 (by rw [List.length_take]; omega))
      go_upto_region 5 with fail
      refine name_world fun W1 hW => ?_
      have B0 : W1.heap[wr.heap.size]? = some (.cells #[.int .i64 x.f0, .int .i64 x.f1, .int .i64 x.f2.f0, .int .i64 x.f2.f1, .int .i64 x.f3] 69 (0, 0)) := by rw [hW]; exact blk_new wr _
      have hb1 : Below wr.heap.size wr W1 := by rw [hW]; repeat (first | exact Below.refl _ _ | apply below_alloc | refine below_set ?_ (by simp))
      clear hW
      generalize hX : wr.heap.size = X at B0 ⊢
      replace HB := Aside0.mk (bthen HB.out hb1)
      have HO1 := Aside0.mk (Kd.R_below (R_new (ok' := fun q => q ≠ X) HO.out (X := X) (by omega) (fun q _ h2 => by omega)) hb1)
      have hXw : w.heap.size ≤ X := by omega
      clear h0 h1 h2 h3 h4 hb1 hX HO
      go_wp2
      go_loopw [6, 20] (fun o i wq => ∃ (j : Nat), j ≤ t.length ∧ i = .int .i64 j ∧ Aside0 (kRw.R 69 wq w.heap.size (fun q => q ≠ X) o (pairsR (s.take k) t ++ jrowR x (t.take j))) ∧ Aside0 (wq.heap[X]? = some (.cells #[.int .i64 x.f0, .int .i64 x.f1, .int .i64 x.f2.f0, .int .i64 x.f2.f1, .int .i64 x.f3] 69 (0, 0))) ∧ Aside0 (Below w.heap.size w wq)) (fun _ i _ => t.length - (intOf i).toNat)
      case atStart => exact ⟨0, Nat.zero_le _, rfl, ⟨by simpa [jrowR] using HO1.out⟩, ⟨B0⟩, HB⟩
      case round =>
        clear HO1 HB B0
        obtain ⟨j, hj, rfl, HO, HB0, HB⟩ := hrel
        by_cases hlt2 : j < t.length
        · obtain ⟨ad2, y, e, HY, i0, i1, i2, i3, i4⟩ := rdRw HR2.out HB.out hlt2
          cases e
          have hwq := HB.out.size
          have hjl := jrowR_len x (t.take j)
          have b0 : wr.cell? ⟨X, 0, none⟩ = some (.int .i64 x.f0) := blk_cell HB0.out 0
          have hXl := blk_lt HB0.out
          cases hxy : (x.f0 == y.f0)
          · go_wp2
            go_roundw
            case rel => exact ⟨j + 1, by omega, by go_num, ⟨by rw [jrowR_snoc HY.out, if_neg (by simpa using hxy), List.append_nil]; exact Kd.R_alloc HO.out _⟩, ⟨blk_alloc HB0.out _⟩, ⟨below_alloc HB.out _⟩⟩
            case measure => simp [intOf]; omega
          · go_wp2
            refine name_world fun W hW => ?_
            have B1 : W.heap[wr.heap.size]? = some (.cells #[.int .i64 y.f0, .int .i64 y.f1, .int .i64 y.f2.f0, .int .i64 y.f2.f1, .int .i64 y.f3] 69 (0, 0)) := by rw [hW]; exact blk_new wr _
            have hb1 : Below wr.heap.size wr W := by rw [hW]; repeat (first | exact Below.refl _ _ | apply below_alloc | refine below_set ?_ (by simp))
            clear hW
            generalize hY : wr.heap.size = Y at B1 ⊢
            have HX0 := Aside0.mk (blk_below HB0.out hb1)
            have HO1 := Aside0.mk (Kd.R_below (R_new (ok' := fun q => q ≠ X ∧ q ≠ Y) HO.out (X := Y) (by omega) (fun q h1 h2 => ⟨h1, by omega⟩)) hb1)
            replace HB := Aside0.mk (bthen HB.out hb1)
            have hW0 := HB.out.size
            have hYl := blk_lt B1
            have hXW := blk_lt HX0.out
            clear b0 i0 i1 i2 i3 i4 hb1 HO hY HB0
            have c0 : W.cell? ⟨X, 0, none⟩ = some (.int .i64 x.f0) := blk_cell HX0.out 0
            have c1 : W.cell? ⟨X, 1, none⟩ = some (.int .i64 x.f1) := blk_cell HX0.out 1
            have c2 : W.cell? ⟨X, 2, none⟩ = some (.int .i64 x.f2.f0) := blk_cell HX0.out 2
            have c3 : W.cell? ⟨X, 3, none⟩ = some (.int .i64 x.f2.f1) := blk_cell HX0.out 3
            have c4 : W.cell? ⟨X, 4, none⟩ = some (.int .i64 x.f3) := blk_cell HX0.out 4
            have d1 : W.cell? ⟨Y, 1, none⟩ = some (.int .i64 y.f1) := blk_cell B1 1
            have d2 : W.cell? ⟨Y, 2, none⟩ = some (.int .i64 y.f2.f0) := blk_cell B1 2
            have d3 : W.cell? ⟨Y, 3, none⟩ = some (.int .i64 y.f2.f1) := blk_cell B1 3
            have d4 : W.cell? ⟨Y, 4, none⟩ = some (.int .i64 y.f3) := blk_cell B1 4
            have HOd := Aside0.mk (R_drew HO1.out)
            go_region_held3 (fun w' => w'.cell? ⟨X, 0, none⟩ = some (.int .i64 x.f0) ∧ w'.cell? ⟨X, 1, none⟩ = some (.int .i64 x.f1) ∧ w'.cell? ⟨X, 2, none⟩ = some (.int .i64 x.f2.f0) ∧ w'.cell? ⟨X, 3, none⟩ = some (.int .i64 x.f2.f1) ∧ w'.cell? ⟨X, 4, none⟩ = some (.int .i64 x.f3) ∧ w'.cell? ⟨Y, 1, none⟩ = some (.int .i64 y.f1) ∧ w'.cell? ⟨Y, 2, none⟩ = some (.int .i64 y.f2.f0) ∧ w'.cell? ⟨Y, 3, none⟩ = some (.int .i64 y.f2.f1) ∧ w'.cell? ⟨Y, 4, none⟩ = some (.int .i64 y.f3)) (first | exact ⟨c0, c1, c2, c3, c4, d1, d2, d3, d4⟩ | exact HM | exact ⟨pw_cell_below hb5 c0, pw_cell_below hb5 c1, pw_cell_below hb5 c2, pw_cell_below hb5 c3, pw_cell_below hb5 c4, pw_cell_below hb5 d1, pw_cell_below hb5 d2, pw_cell_below hb5 d3, pw_cell_below hb5 d4⟩ | exact ⟨pw_cell_below (by repeat (first | exact Below.refl _ _ | apply below_alloc | apply below_drew | assumption)) c0, pw_cell_below (by repeat (first | exact Below.refl _ _ | apply below_alloc | apply below_drew | assumption)) c1, pw_cell_below (by repeat (first | exact Below.refl _ _ | apply below_alloc | apply below_drew | assumption)) c2, pw_cell_below (by repeat (first | exact Below.refl _ _ | apply below_alloc | apply below_drew | assumption)) c3, pw_cell_below (by repeat (first | exact Below.refl _ _ | apply below_alloc | apply below_drew | assumption)) c4, pw_cell_below (by repeat (first | exact Below.refl _ _ | apply below_alloc | apply below_drew | assumption)) d1, pw_cell_below (by repeat (first | exact Below.refl _ _ | apply below_alloc | apply below_drew | assumption)) d2, pw_cell_below (by repeat (first | exact Below.refl _ _ | apply below_alloc | apply below_drew | assumption)) d3, pw_cell_below (by repeat (first | exact Below.refl _ _ | apply below_alloc | apply below_drew | assumption)) d4⟩)
              (first
               | (go_at_call 83; ((with_reducible refine (impl_joinedVal _ _ _).mono ?_); rintro e w' ⟨rfl, rfl⟩))
               | (go_at_call 111; ((with_reducible refine (impl_TimeJoin _ _ _ _ _).mono ?_); rintro e w5 ⟨rfl, hb⟩; have hb5 : Below W.heap.size W w5 := bthen (below_drew (Below.refl _ _)) hb; have HO5 := Aside0.mk (Kd.R_below HOd.out hb); have HB5 := Aside0.mk (bthen HB.out hb5); have hw5 := hb5.size; clear hb))
               | (refine stepRw (W := w5) (base := w.heap.size) (xs := pairsR (s.take k) t ++ jrowR x (t.take j)) (ok := fun q => q ≠ X ∧ q ≠ Y) rfl rfl rfl HO5.out (fun q hq => by first | trivial | omega) (by omega) (by rw [List.length_append]; rw [List.length_take] at hjl; omega) ?_; intro v1 w1 hr1 hb1 hg1; have HO4 := Aside0.mk hr1; have HB4 := Aside0.mk (below_more HB5.out hb1); have HG4 := Aside0.mk hg1; have HM : w1.cell? ⟨X, 0, none⟩ = some (.int .i64 x.f0) ∧ w1.cell? ⟨X, 1, none⟩ = some (.int .i64 x.f1) ∧ w1.cell? ⟨X, 2, none⟩ = some (.int .i64 x.f2.f0) ∧ w1.cell? ⟨X, 3, none⟩ = some (.int .i64 x.f2.f1) ∧ w1.cell? ⟨X, 4, none⟩ = some (.int .i64 x.f3) ∧ w1.cell? ⟨Y, 1, none⟩ = some (.int .i64 y.f1) ∧ w1.cell? ⟨Y, 2, none⟩ = some (.int .i64 y.f2.f0) ∧ w1.cell? ⟨Y, 3, none⟩ = some (.int .i64 y.f2.f1) ∧ w1.cell? ⟨Y, 4, none⟩ = some (.int .i64 y.f3) := ⟨cell_app HO5.out hg1 (pw_cell_below hb5 c0) (by first | exact Or.inl (by assumption) | exact Or.inr (fun e => e rfl) | exact Or.inr (fun e => e.1 rfl) | exact Or.inr (fun e => e.2 rfl) | exact Or.inl (Nat.lt_of_lt_of_le (by assumption) (by omega))), cell_app HO5.out hg1 (pw_cell_below hb5 c1) (by first | exact Or.inl (by assumption) | exact Or.inr (fun e => e rfl) | exact Or.inr (fun e => e.1 rfl) | exact Or.inr (fun e => e.2 rfl) | exact Or.inl (Nat.lt_of_lt_of_le (by assumption) (by omega))), cell_app HO5.out hg1 (pw_cell_below hb5 c2) (by first | exact Or.inl (by assumption) | exact Or.inr (fun e => e rfl) | exact Or.inr (fun e => e.1 rfl) | exact Or.inr (fun e => e.2 rfl) | exact Or.inl (Nat.lt_of_lt_of_le (by assumption) (by omega))), cell_app HO5.out hg1 (pw_cell_below hb5 c3) (by first | exact Or.inl (by assumption) | exact Or.inr (fun e => e rfl) | exact Or.inr (fun e => e.1 rfl) | exact Or.inr (fun e => e.2 rfl) | exact Or.inl (Nat.lt_of_lt_of_le (by assumption) (by omega))), cell_app HO5.out hg1 (pw_cell_below hb5 c4) (by first | exact Or.inl (by assumption) | exact Or.inr (fun e => e rfl) | exact Or.inr (fun e => e.1 rfl) | exact Or.inr (fun e => e.2 rfl) | exact Or.inl (Nat.lt_of_lt_of_le (by assumption) (by omega))), cell_app HO5.out hg1 (pw_cell_below hb5 d1) (by first | exact Or.inl (by assumption) | exact Or.inr (fun e => e rfl) | exact Or.inr (fun e => e.1 rfl) | exact Or.inr (fun e => e.2 rfl) | exact Or.inl (Nat.lt_of_lt_of_le (by assumption) (by omega))), cell_app HO5.out hg1 (pw_cell_below hb5 d2) (by first | exact Or.inl (by assumption) | exact Or.inr (fun e => e rfl) | exact Or.inr (fun e => e.1 rfl) | exact Or.inr (fun e => e.2 rfl) | exact Or.inl (Nat.lt_of_lt_of_le (by assumption) (by omega))), cell_app HO5.out hg1 (pw_cell_below hb5 d3) (by first | exact Or.inl (by assumption) | exact Or.inr (fun e => e rfl) | exact Or.inr (fun e => e.1 rfl) | exact Or.inr (fun e => e.2 rfl) | exact Or.inl (Nat.lt_of_lt_of_le (by assumption) (by omega))), cell_app HO5.out hg1 (pw_cell_below hb5 d4) (by first | exact Or.inl (by assumption) | exact Or.inr (fun e => e rfl) | exact Or.inr (fun e => e.1 rfl) | exact Or.inr (fun e => e.2 rfl) | exact Or.inl (Nat.lt_of_lt_of_le (by assumption) (by omega)))⟩; clear hr1 hb1 hg1))
            have X4 := Aside0.mk (blk_app HO5.out HG4.out (blk_below HX0.out hb5) (fun e => e.1 rfl))
            go_wp2
            go_roundw
            case rel => exact ⟨j + 1, by omega, by go_num, ⟨by have h4 := HO4.out; rw [wrapI] at h4; rw [jrowR_snoc HY.out, if_pos (by simpa using hxy), ← List.append_assoc]; exact Kd.R_mono h4 (fun _ h => h.1)⟩, X4, HB4⟩
            case measure => simp [intOf]; omega
        · obtain rfl : j = t.length := by omega
          rw [List.take_length] at HO
          go_wp2
          go_roundw
          case rel => exact ⟨k + 1, by omega, by go_num, ⟨by rw [pairsR_snoc HX.out]; exact Kd.R_mono HO.out (fun _ _ => trivial)⟩, HB⟩
          case measure => simp [intOf]; omega
    · obtain rfl : k = s.length := by omega
      rw [List.take_length] at HO
      have hpl : (pairsR s t).length ≤ 400 * 400 := Nat.le_trans (pairsR_len t s) (Nat.mul_le_mul hl2 hl1)
      go_wp2_with (go_at_call 71; ((with_reducible refine (impl_batch _ (pairsR s t) _ (Sl.of_R HO.out) hfit.out (by omega)).mono ?_); rintro e w' ⟨u2, rfl, hr, hb⟩; have HF2 := Aside0.mk (Kd.R_lower hr HB.out.size); replace HB := Aside0.mk (bthen HB.out hb); clear hr hb))
      go_ret2
      exact BatchP.mk rfl HF2.out HB.out
set_option maxRecDepth 100000 in
set_option maxHeartbeats 2000000 in
theorem impl_FlowJoin (v v2 : Value) (l m : List Rw) (w : World) (h : Sl kRw w v l) (h2 : Sl kRw w v2 m) : Calls Try.prog 27 #[v, v2] w (RetR kRw 69 w (flowJoin l m)) := by
  have HS := Aside0.mk h
  have HT := Aside0.mk h2
  obtain ⟨A, c_, rfl, HC, hr⟩ := h
  have hm := Kd.C_max hr
  have HR := Aside0.mk hr
  clear hr
  obtain ⟨A2, c2_, rfl, HC2, hr2⟩ := h2
  have hm2 := Kd.C_max hr2
  have HR2 := Aside0.mk hr2
  clear hr2
  cases hs : rowsOk l
  · have HB := Aside0.mk (Below.refl w.heap.size w)
    go_enter Try.func27, Try.ntmps27
    go_wp2_with (go_at_call 70; ((with_reducible refine (impl_RowsOk _ l _ (HS.out.below HB.out)).mono ?_); rintro e w' ⟨rfl, hb⟩; replace HB := Aside0.mk (bthen HB.out hb); clear hb))
    go_ret
    exact RetR.mk (by rw [flowJoin, hs]; exact Kd.R_nil _ _ _ _ _) HB.out
  · cases ht : rowsOk m
    · have HB := Aside0.mk (Below.refl w.heap.size w)
      go_enter Try.func27, Try.ntmps27
      go_wp2_with (first | (go_at_call 70; ((with_reducible refine (impl_RowsOk (.slice A l.length c_) l _ (HS.out.below HB.out)).mono ?_); rintro e w' ⟨rfl, hb⟩; replace HB := Aside0.mk (bthen HB.out hb); clear hb)) | (go_at_call 70; ((with_reducible refine (impl_RowsOk (.slice A2 m.length c2_) m _ (HT.out.below HB.out)).mono ?_); rintro e w' ⟨rfl, hb⟩; replace HB := Aside0.mk (bthen HB.out hb); clear hb)))
      go_ret
      exact RetR.mk (by rw [flowJoin, hs, ht]; exact Kd.R_nil _ _ _ _ _) HB.out
    · obtain ⟨a1, a2⟩ := rowsOk_all hs
      obtain ⟨a3, a4⟩ := rowsOk_all ht
      have A2_ := Aside0.mk a2
      have A4_ := Aside0.mk a4
      clear a2 a4
      have HB := Aside0.mk (Below.refl w.heap.size w)
      go_enter Try.func27, Try.ntmps27
      go_wp2_with (first
        | (go_at_call 70; ((with_reducible refine (impl_RowsOk (.slice A l.length c_) l _ (HS.out.below HB.out)).mono ?_); rintro e w' ⟨rfl, hb⟩; replace HB := Aside0.mk (bthen HB.out hb); clear hb))
        | (go_at_call 70; ((with_reducible refine (impl_RowsOk (.slice A2 m.length c2_) m _ (HT.out.below HB.out)).mono ?_); rintro e w' ⟨rfl, hb⟩; replace HB := Aside0.mk (bthen HB.out hb); clear hb))
        | (go_at_call 81; ((with_reducible refine (impl_flowJoin _ _ l m _ (HS.out.below HB.out) (HT.out.below HB.out) A2_.out A4_.out a1 a3).mono ?_); rintro e w' ⟨u2, rfl, hr, hb⟩; have HF2 := Aside0.mk (Kd.R_lower hr HB.out.size); replace HB := Aside0.mk (bthen HB.out hb); clear hr hb)))
      go_ret
      exact RetR.mk (by rw [flowJoin, hs, ht]; exact HF2.out) HB.out
theorem rw_add_lt {w : World} {ad : Addr} {xs : List Rw} (h : kRw.C w (some ad) xs.length xs) {k : Nat} (hk : k < xs.length) (j : Nat) : (ad.add j).block < w.heap.size := add_blk ad j ▸ rwLt h hk
set_option maxRecDepth 100000 in
set_option maxHeartbeats 4000000 in
theorem spec_l11Join (v v2 : Value) (s t : List Rw) (w : World) (h : Sl kRw w v s) (h2 : Sl kRw w v2 t) (hl1 : s.length ≤ 400) (hl2 : t.length ≤ 400) : Calls Try.prog 82 #[v, v2] w (RetR kRw 69 w (sum (pairsR s t))) := by
  obtain ⟨A, c_, rfl, HC, hr⟩ := h
  have hm := Kd.C_max hr
  have HR := Aside0.mk hr
  clear hr
  obtain ⟨A2, c2_, rfl, HC2, hr2⟩ := h2
  have hm2 := Kd.C_max hr2
  have HR2 := Aside0.mk hr2
  clear hr2
  have HN := Aside0.mk (R_none (d := kRw) (e := 69) (base := w.heap.size) (ok := okT) (blk_new w (.cells #[] 69)) (Nat.le_refl _) trivial)
  have HB := Aside0.mk (Below.refl w.heap.size w)
  go_enter Try.func82, Try.ntmps82
  replace HB := Aside0.mk (below_alloc (Below.refl w.heap.size w) (.cells #[] 69))
  go_wp2
  go_loopw [5, 6] (fun o i wr => ∃ (k : Nat), k ≤ s.length ∧ i = .int .i64 k ∧ Aside0 (kRw.R 69 wr w.heap.size okT o (pairsR (s.take k) t)) ∧ Aside0 (Below w.heap.size w wr)) (fun _ i _ => s.length - (intOf i).toNat)
  case atStart => exact ⟨0, Nat.zero_le _, rfl, HN, HB⟩
  case round =>
    clear HB HN
    obtain ⟨k, hk, rfl, HO, HB⟩ := hrel
    by_cases hlt : k < s.length
    · have hpl : (pairsR (s.take k) t).length ≤ 400 * 400 := Nat.le_trans (pairsR_len t (s.take k)) (Nat.mul_le_mul hl2 (by rw [List.length_take]; omega))
      obtain ⟨x, hx⟩ : ∃ x, s[k]? = some x := ⟨_, List.getElem?_eq_getElem hlt⟩
      have HX := Aside0.mk hx
      clear hx
      go_wp2
      go_loopw [5, 7] (fun o i wq => ∃ (j : Nat), j ≤ t.length ∧ i = .int .i64 j ∧ Aside0 (kRw.R 69 wq w.heap.size okT o (pairsR (s.take k) t ++ jrowR x (t.take j))) ∧ Aside0 (Below w.heap.size w wq)) (fun _ i _ => t.length - (intOf i).toNat)
      case atStart => exact ⟨0, Nat.zero_le _, rfl, ⟨by simpa [jrowR] using HO.out⟩, HB⟩
      case round =>
        clear HO HB
        obtain ⟨j, hj, rfl, HO, HB⟩ := hrel
        by_cases hlt2 : j < t.length
        · obtain ⟨ad, x', e, HX', h0, h1, h2, h3, h4⟩ := rdRw HR.out HB.out hlt
          cases e
          have ex : x' = x := Option.some.inj (HX'.out.symm.trans HX.out)
          subst ex
          obtain ⟨ad2, y, e, HY, i0, i1, i2, i3, i4⟩ := rdRw HR2.out HB.out hlt2
          cases e
          have a1 := rw_add_lt HR.out hlt (k * 5)
          have a2 := rw_add_lt HR2.out hlt2 (j * 5)
          have hjl := jrowR_len x' (t.take j)
          have p0 := fun u => Ext.cell h0 u
          have q0 := fun u => Ext.cell i0 u
          cases hxy : (x'.f0 == y.f0)
          · go_wp2
            refine wp_region_ext (by kernel_rfl) (by kernel_rfl) ?_
            repeat (any_goals (first | go_big_quiet_step (fail) | quiet_step (fail) | (refine wpQuiet_step (fun K hK => ?_); go_simp; split <;> (refine hK _ ?_; clear hK K))))
            all_goals (refine wpQuiet_nil ?_; intro u)
            go_wp2
            go_roundw
            case rel => exact ⟨j + 1, by omega, by go_num, ⟨by rw [jrowR_snoc HY.out, if_neg (by simpa using hxy), List.append_nil]; exact Kd.R_below HO.out u.bel⟩, ⟨bthen HB.out u.bel⟩⟩
            case measure => simp [intOf]; omega
          · go_wp2
            refine wp_region_ext (by kernel_rfl) (by kernel_rfl) ?_
            repeat (any_goals (first | go_big_quiet_step (fail) | quiet_step (fail) | (refine wpQuiet_step (fun K hK => ?_); go_simp; split <;> (refine hK _ ?_; clear hK K))))
            all_goals (refine wpQuiet_nil ?_; intro u)
            have HO1 := Aside0.mk (Kd.R_below HO.out u.bel)
            replace h0 := pw_cell_below u.bel h0
            replace h1 := pw_cell_below u.bel h1
            replace h2 := pw_cell_below u.bel h2
            replace h3 := pw_cell_below u.bel h3
            replace h4 := pw_cell_below u.bel h4
            replace i1 := pw_cell_below u.bel i1
            replace i2 := pw_cell_below u.bel i2
            replace i3 := pw_cell_below u.bel i3
            replace i4 := pw_cell_below u.bel i4
            replace HB := Aside0.mk (bthen HB.out u.bel)
            have hW0 := HB.out.size
            clear p0 q0 i0 HO
            generalize u.w' = W at *
            go_wp2
            have HOd := Aside0.mk (R_drew HO1.out)
            go_region_held3 (fun w' => w'.cell? (ad.add (k * 5)) = some (.int .i64 x'.f0) ∧ w'.cell? ⟨(ad.add (k * 5)).block, (ad.add (k * 5)).off + 1, none⟩ = some (.int .i64 x'.f1) ∧ w'.cell? ⟨(ad.add (k * 5)).block, (ad.add (k * 5)).off + 2, none⟩ = some (.int .i64 x'.f2.f0) ∧ w'.cell? ⟨(ad.add (k * 5)).block, (ad.add (k * 5)).off + 3, none⟩ = some (.int .i64 x'.f2.f1) ∧ w'.cell? ⟨(ad.add (k * 5)).block, (ad.add (k * 5)).off + 4, none⟩ = some (.int .i64 x'.f3) ∧ w'.cell? ⟨(ad2.add (j * 5)).block, (ad2.add (j * 5)).off + 1, none⟩ = some (.int .i64 y.f1) ∧ w'.cell? ⟨(ad2.add (j * 5)).block, (ad2.add (j * 5)).off + 2, none⟩ = some (.int .i64 y.f2.f0) ∧ w'.cell? ⟨(ad2.add (j * 5)).block, (ad2.add (j * 5)).off + 3, none⟩ = some (.int .i64 y.f2.f1) ∧ w'.cell? ⟨(ad2.add (j * 5)).block, (ad2.add (j * 5)).off + 4, none⟩ = some (.int .i64 y.f3)) (first | exact ⟨h0, h1, h2, h3, h4, i1, i2, i3, i4⟩ | exact HM | exact ⟨pw_cell_below hb5 h0, pw_cell_below hb5 h1, pw_cell_below hb5 h2, pw_cell_below hb5 h3, pw_cell_below hb5 h4, pw_cell_below hb5 i1, pw_cell_below hb5 i2, pw_cell_below hb5 i3, pw_cell_below hb5 i4⟩ | exact ⟨pw_cell_below (by repeat (first | exact Below.refl _ _ | apply below_alloc | apply below_drew | assumption)) h0, pw_cell_below (by repeat (first | exact Below.refl _ _ | apply below_alloc | apply below_drew | assumption)) h1, pw_cell_below (by repeat (first | exact Below.refl _ _ | apply below_alloc | apply below_drew | assumption)) h2, pw_cell_below (by repeat (first | exact Below.refl _ _ | apply below_alloc | apply below_drew | assumption)) h3, pw_cell_below (by repeat (first | exact Below.refl _ _ | apply below_alloc | apply below_drew | assumption)) h4, pw_cell_below (by repeat (first | exact Below.refl _ _ | apply below_alloc | apply below_drew | assumption)) i1, pw_cell_below (by repeat (first | exact Below.refl _ _ | apply below_alloc | apply below_drew | assumption)) i2, pw_cell_below (by repeat (first | exact Below.refl _ _ | apply below_alloc | apply below_drew | assumption)) i3, pw_cell_below (by repeat (first | exact Below.refl _ _ | apply below_alloc | apply below_drew | assumption)) i4⟩)
              (first
               | (go_at_call 130; ((with_reducible refine (spec_l3Pair _ _ _).mono ?_); rintro e w' ⟨rfl, rfl⟩))
               | (go_at_call 118; ((with_reducible refine (spec_TimeJoin _ _ _ _ _).mono ?_); rintro e w5 ⟨rfl, hb⟩; have hb5 : Below W.heap.size W w5 := bthen (below_drew (Below.refl _ _)) hb; have HO5 := Aside0.mk (Kd.R_below HOd.out hb); have HB5 := Aside0.mk (bthen HB.out hb5); have hw5 := hb5.size; clear hb))
               | (refine stepRw (W := w5) (base := w.heap.size) (xs := pairsR (s.take k) t ++ jrowR x' (t.take j)) (ok := okT) rfl rfl rfl HO5.out (fun q hq => by first | trivial | omega) (by omega) (by rw [List.length_append]; rw [List.length_take] at hjl; omega) ?_; intro v1 w1 hr1 hb1 hg1; have HO4 := Aside0.mk hr1; have HB4 := Aside0.mk (below_more HB5.out hb1); have HG4 := Aside0.mk hg1; have HM : w1.cell? (ad.add (k * 5)) = some (.int .i64 x'.f0) ∧ w1.cell? ⟨(ad.add (k * 5)).block, (ad.add (k * 5)).off + 1, none⟩ = some (.int .i64 x'.f1) ∧ w1.cell? ⟨(ad.add (k * 5)).block, (ad.add (k * 5)).off + 2, none⟩ = some (.int .i64 x'.f2.f0) ∧ w1.cell? ⟨(ad.add (k * 5)).block, (ad.add (k * 5)).off + 3, none⟩ = some (.int .i64 x'.f2.f1) ∧ w1.cell? ⟨(ad.add (k * 5)).block, (ad.add (k * 5)).off + 4, none⟩ = some (.int .i64 x'.f3) ∧ w1.cell? ⟨(ad2.add (j * 5)).block, (ad2.add (j * 5)).off + 1, none⟩ = some (.int .i64 y.f1) ∧ w1.cell? ⟨(ad2.add (j * 5)).block, (ad2.add (j * 5)).off + 2, none⟩ = some (.int .i64 y.f2.f0) ∧ w1.cell? ⟨(ad2.add (j * 5)).block, (ad2.add (j * 5)).off + 3, none⟩ = some (.int .i64 y.f2.f1) ∧ w1.cell? ⟨(ad2.add (j * 5)).block, (ad2.add (j * 5)).off + 4, none⟩ = some (.int .i64 y.f3) := ⟨cell_app HO5.out hg1 (pw_cell_below hb5 h0) (by first | exact Or.inl (by assumption) | exact Or.inr (fun e => e rfl) | exact Or.inr (fun e => e.1 rfl) | exact Or.inr (fun e => e.2 rfl) | exact Or.inl (Nat.lt_of_lt_of_le (by assumption) (by omega))), cell_app HO5.out hg1 (pw_cell_below hb5 h1) (by first | exact Or.inl (by assumption) | exact Or.inr (fun e => e rfl) | exact Or.inr (fun e => e.1 rfl) | exact Or.inr (fun e => e.2 rfl) | exact Or.inl (Nat.lt_of_lt_of_le (by assumption) (by omega))), cell_app HO5.out hg1 (pw_cell_below hb5 h2) (by first | exact Or.inl (by assumption) | exact Or.inr (fun e => e rfl) | exact Or.inr (fun e => e.1 rfl) | exact Or.inr (fun e => e.2 rfl) | exact Or.inl (Nat.lt_of_lt_of_le (by assumption) (by omega))), cell_app HO5.out hg1 (pw_cell_below hb5 h3) (by first | exact Or.inl (by assumption) | exact Or.inr (fun e => e rfl) | exact Or.inr (fun e => e.1 rfl) | exact Or.inr (fun e => e.2 rfl) | exact Or.inl (Nat.lt_of_lt_of_le (by assumption) (by omega))), cell_app HO5.out hg1 (pw_cell_below hb5 h4) (by first | exact Or.inl (by assumption) | exact Or.inr (fun e => e rfl) | exact Or.inr (fun e => e.1 rfl) | exact Or.inr (fun e => e.2 rfl) | exact Or.inl (Nat.lt_of_lt_of_le (by assumption) (by omega))), cell_app HO5.out hg1 (pw_cell_below hb5 i1) (by first | exact Or.inl (by assumption) | exact Or.inr (fun e => e rfl) | exact Or.inr (fun e => e.1 rfl) | exact Or.inr (fun e => e.2 rfl) | exact Or.inl (Nat.lt_of_lt_of_le (by assumption) (by omega))), cell_app HO5.out hg1 (pw_cell_below hb5 i2) (by first | exact Or.inl (by assumption) | exact Or.inr (fun e => e rfl) | exact Or.inr (fun e => e.1 rfl) | exact Or.inr (fun e => e.2 rfl) | exact Or.inl (Nat.lt_of_lt_of_le (by assumption) (by omega))), cell_app HO5.out hg1 (pw_cell_below hb5 i3) (by first | exact Or.inl (by assumption) | exact Or.inr (fun e => e rfl) | exact Or.inr (fun e => e.1 rfl) | exact Or.inr (fun e => e.2 rfl) | exact Or.inl (Nat.lt_of_lt_of_le (by assumption) (by omega))), cell_app HO5.out hg1 (pw_cell_below hb5 i4) (by first | exact Or.inl (by assumption) | exact Or.inr (fun e => e rfl) | exact Or.inr (fun e => e.1 rfl) | exact Or.inr (fun e => e.2 rfl) | exact Or.inl (Nat.lt_of_lt_of_le (by assumption) (by omega)))⟩; clear hr1 hb1 hg1))
            go_wp2
            go_roundw
            case rel => exact ⟨j + 1, by omega, by go_num, ⟨by have h4 := HO4.out; rw [wrapI] at h4; rw [jrowR_snoc HY.out, if_pos (by simpa using hxy), ← List.append_assoc]; exact h4⟩, HB4⟩
            case measure => simp [intOf]; omega
        · obtain rfl : j = t.length := by omega
          rw [List.take_length] at HO
          go_wp2
          go_roundw
          case rel => exact ⟨k + 1, by omega, by go_num, ⟨by rw [pairsR_snoc HX.out]; exact HO.out⟩, HB⟩
          case measure => simp [intOf]; omega
    · obtain rfl : k = s.length := by omega
      rw [List.take_length] at HO
      have hpl : (pairsR s t).length ≤ 400 * 400 := Nat.le_trans (pairsR_len t s) (Nat.mul_le_mul hl2 hl1)
      go_wp2_with (go_at_call 74; ((with_reducible refine (spec_l2Sum _ (pairsR s t) _ (Sl.of_R HO.out) (by omega)).mono ?_); rintro e w' ⟨u, rfl, hr, hb⟩; have HF := Aside0.mk (Kd.R_lower hr HB.out.size); replace HB := Aside0.mk (bthen HB.out hb); clear hr hb))
      go_ret
      exact RetR.mk HF.out HB.out
set_option maxRecDepth 100000 in
set_option maxHeartbeats 2000000 in
theorem spec_FlowJoin (v v2 : Value) (l m : List Rw) (w : World) (h : Sl kRw w v l) (h2 : Sl kRw w v2 m) : Calls Try.prog 28 #[v, v2] w fun e w' => ∃ u, e = .returned u ∧ Sl kRw w' u (flowJoin l m) ∧ Below w.heap.size w w' := by
  have HS := Aside0.mk h
  have HT := Aside0.mk h2
  obtain ⟨A, c_, rfl, HC, hr⟩ := h
  have hm := Kd.C_max hr
  have HR := Aside0.mk hr
  clear hr
  obtain ⟨A2, c2_, rfl, HC2, hr2⟩ := h2
  have hm2 := Kd.C_max hr2
  have HR2 := Aside0.mk hr2
  clear hr2
  cases hs : rowsOk l
  · have HB := Aside0.mk (Below.refl w.heap.size w)
    go_enter Try.func28, Try.ntmps28
    go_wp2_with (go_at_call 19; ((with_reducible refine (spec_RowsOk _ l _ (HS.out.below HB.out)).mono ?_); rintro e wb ⟨rfl, hb⟩; replace HB := Aside0.mk (bthen HB.out hb); clear hb))
    go_ret
    exact ⟨_, rfl, by rw [flowJoin, hs]; exact Sl.of_R (R_none (e := 69) (ok := okT) (blk_new wb _) (Nat.le_refl _) trivial), below_alloc HB.out _⟩
  · cases ht : rowsOk m
    · have HB := Aside0.mk (Below.refl w.heap.size w)
      go_enter Try.func28, Try.ntmps28
      go_wp2_with (first | (go_at_call 19; ((with_reducible refine (spec_RowsOk (.slice A l.length c_) l _ (HS.out.below HB.out)).mono ?_); rintro e w' ⟨rfl, hb⟩; replace HB := Aside0.mk (bthen HB.out hb); clear hb)) | (go_at_call 19; ((with_reducible refine (spec_RowsOk (.slice A2 m.length c2_) m _ (HT.out.below HB.out)).mono ?_); rintro e wb ⟨rfl, hb⟩; replace HB := Aside0.mk (bthen HB.out hb); clear hb)))
      go_ret
      exact ⟨_, rfl, by rw [flowJoin, hs, ht]; exact Sl.of_R (R_none (e := 69) (ok := okT) (blk_new wb _) (Nat.le_refl _) trivial), below_alloc HB.out _⟩
    · obtain ⟨a1, a2⟩ := rowsOk_all hs
      obtain ⟨a3, a4⟩ := rowsOk_all ht
      clear a2 a4
      have HB := Aside0.mk (Below.refl w.heap.size w)
      go_enter Try.func28, Try.ntmps28
      go_wp2_with (first
        | (go_at_call 19; ((with_reducible refine (spec_RowsOk (.slice A l.length c_) l _ (HS.out.below HB.out)).mono ?_); rintro e w' ⟨rfl, hb⟩; replace HB := Aside0.mk (bthen HB.out hb); clear hb))
        | (go_at_call 19; ((with_reducible refine (spec_RowsOk (.slice A2 m.length c2_) m _ (HT.out.below HB.out)).mono ?_); rintro e w' ⟨rfl, hb⟩; replace HB := Aside0.mk (bthen HB.out hb); clear hb))
        | (go_at_call 82; ((with_reducible refine (spec_l11Join _ _ l m _ (HS.out.below HB.out) (HT.out.below HB.out) a1 a3).mono ?_); rintro e w' ⟨u, rfl, hr, hb⟩; have HF := Aside0.mk (Kd.R_lower hr HB.out.size); replace HB := Aside0.mk (bthen HB.out hb); clear hr hb))
        | (go_at_call 73; ((with_reducible refine (spec_l2Fit _ (sum (pairsR l m)) _ (Sl.of_R HF.out)).mono ?_); rintro e w' ⟨u2, rfl, hr, hb⟩; have HF2 := Aside0.mk hr; replace HB := Aside0.mk (bthen HB.out hb); clear hr hb)))
      go_ret
      exact ⟨_, rfl, by rw [flowJoin, hs, ht]; exact HF2.out, HB.out⟩
end Go.Proofs.Ytlmglffdmoklcaa.X
