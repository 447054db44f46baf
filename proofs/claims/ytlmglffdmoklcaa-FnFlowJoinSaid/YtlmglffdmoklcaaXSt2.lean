/- The walks of the pairs of collections. Conditions: none. -/
import Derived.Test.YtlmglffdmoklcaaXSt1
import Derived.Test.YtlmglffdmoklcaaXRg
import Derived.Deep.QuietTactic
import Derived.BigQuiet
namespace Go.Proofs.Ytlmglffdmoklcaa.X
open Go.RowKit Go.Proofs.YtlmglffdmoklcaaW.PrintWords
set_option linter.unusedVariables false
set_option linter.unusedSimpArgs false

def jrow (x : It) (t : List It) : List It := (t.filter fun y => decide (x.f0 = y.f0)).map (pairI x)
theorem pairs_snoc {s : List It} {k : Nat} {x : It} (hx : s[k]? = some x) (t : List It) : pairs (s.take (k + 1)) t = pairs (s.take k) t ++ jrow x t := by
  rw [take_snoc hx]; unfold pairs; rw [List.flatMap_append]; simp [jrow]
theorem jrow_snoc {t : List It} {k : Nat} {y : It} (hy : t[k]? = some y) (x : It) : jrow x (t.take (k + 1)) = jrow x (t.take k) ++ (if x.f0 = y.f0 then [pairI x y] else []) := by
  rw [take_snoc hy]; unfold jrow; rw [List.filter_append, List.map_append]
  by_cases h : x.f0 = y.f0 <;> simp [h]
theorem jrow_len (x : It) (t : List It) : (jrow x t).length ≤ t.length := by unfold jrow; rw [List.length_map]; exact List.length_filter_le _ _
theorem pairs_len (t : List It) : ∀ s : List It, (pairs s t).length ≤ t.length * s.length := fun s => len_flatMap fun x _ => jrow_len x t
theorem pairs_fit {s t : List It} (hs : setOk s = true) (ht : setOk t = true) : ∀ y ∈ pairs s t, wfI y.f0 ∧ wfI y.f1 ∧ wfI y.f2 := fun z hz => by
  obtain ⟨x, hx, hz⟩ := List.mem_flatMap.1 hz
  obtain ⟨y, hy, rfl⟩ := List.mem_map.1 hz
  have h1 := sOk_of hs x hx
  have h2 := sOk_of ht y (List.mem_filter.1 hy).1
  unfold pairI
  simp only
  rw [jval_eq (by omega) (by omega) (by omega) (by omega)]
  exact ⟨wf_of (by omega) (by omega), wf_of (by omega) (by omega), wf_of (by unfold wrap64; omega) (by unfold wrap64; omega)⟩
set_option maxRecDepth 100000 in
set_option maxHeartbeats 4000000 in
theorem impl_SetJoin (v v2 : Value) (s t : List It) (w : World) (h : Sl kIt w v s) (h2 : Sl kIt w v2 t) : Calls Try.prog 29 #[v, v2] w (RetR kIt 93 w (setJoin s t)) := by
  have HS := Aside0.mk h
  have HT := Aside0.mk h2
  obtain ⟨A, c_, rfl, HC, hr⟩ := h
  have hm := Kd.C_max hr
  have HR := Aside0.mk hr
  clear hr
  obtain ⟨A2, c2_, rfl, HC2, hr2⟩ := h2
  have hm2 := Kd.C_max hr2
  have HR2 := Aside0.mk hr2
  clear hr2
  cases hs : setOk s
  · have HB := Aside0.mk (Below.refl w.heap.size w)
    go_enter Try.func29, Try.ntmps29
    go_wp2_with (go_at_call 78; ((with_reducible refine (impl_SetOk _ s _ HS.out).mono ?_); rintro e w' ⟨rfl, hb⟩; replace HB := Aside0.mk (bthen HB.out hb); clear hb))
    go_ret
    exact RetR.mk (by rw [setJoin, hs]; exact Kd.R_nil _ _ _ _ _) HB.out
  · cases ht : setOk t
    · have HB := Aside0.mk (Below.refl w.heap.size w)
      go_enter Try.func29, Try.ntmps29
      go_wp2_with (first | (go_at_call 78; ((with_reducible refine (impl_SetOk (.slice A s.length c_) s _ (HS.out.below HB.out)).mono ?_); rintro e w' ⟨rfl, hb⟩; replace HB := Aside0.mk (bthen HB.out hb); clear hb)) | (go_at_call 78; ((with_reducible refine (impl_SetOk _ t _ (HT.out.below HB.out)).mono ?_); rintro e w' ⟨rfl, hb⟩; replace HB := Aside0.mk (bthen HB.out hb); clear hb)))
      go_ret
      exact RetR.mk (by rw [setJoin, hs, ht]; exact Kd.R_nil _ _ _ _ _) HB.out
    · have hl1 := setOk_len hs
      have hl2 := setOk_len ht
      have hfit := Aside0.mk (pairs_fit hs ht)
      have HB := Aside0.mk (Below.refl w.heap.size w)
      go_enter Try.func29, Try.ntmps29
      go_wp2_with (first
        | (go_at_call 78; ((with_reducible refine (impl_SetOk (.slice A s.length c_) s _ (HS.out.below HB.out)).mono ?_); rintro e w' ⟨rfl, hb⟩; replace HB := Aside0.mk (bthen HB.out hb); clear hb))
        | (go_at_call 78; ((with_reducible refine (impl_SetOk (.slice A2 t.length c2_) t _ (HT.out.below HB.out)).mono ?_); rintro e wb ⟨rfl, hb⟩; replace HB := Aside0.mk (bthen HB.out hb); clear hb)))
      go_loopw [5, 21] (fun o i wr => ∃ (k : Nat), k ≤ s.length ∧ i = .int .i64 k ∧ Aside0 (kIt.R 93 wr w.heap.size okT o (pairs (s.take k) t)) ∧ Aside0 (Below w.heap.size w wr)) (fun _ i _ => s.length - (intOf i).toNat)
      case atStart => exact ⟨0, Nat.zero_le _, rfl, ⟨R_none (blk_new wb _) HB.out.size trivial⟩, ⟨below_alloc HB.out _⟩⟩
      case round =>
        clear HB
        obtain ⟨k, hk, rfl, HO, HB⟩ := hrel
        by_cases hlt : k < s.length
        · obtain ⟨ad, x, e, HX, h0, h1, h2⟩ := rdIt HR.out HB.out hlt
          cases e
          have hws := HB.out.size
          have hpl : (pairs (s.take k) t).length ≤ 400 * 400 := Nat.le_trans (pairs_len t (s.take k)) (Nat.mul_le_mul hl2 (by rw [List.length_take]; omega))
          go_wp2
          refine name_world fun W1 hW => ?_
          have B0 : W1.heap[wr.heap.size]? = some (.cells #[.int .i64 x.f0, .int .i64 x.f1, .int .i64 x.f2] 93 (0, 0)) := by rw [hW]; exact blk_new wr _
          have hb1 : Below wr.heap.size wr W1 := by rw [hW]; repeat (first | exact Below.refl _ _ | apply below_alloc | refine below_set ?_ (by simp))
          clear hW
          generalize hX : wr.heap.size = X at B0 ⊢
          replace HB := Aside0.mk (bthen HB.out hb1)
          have HO1 := Aside0.mk (Kd.R_below (R_new (ok' := fun q => q ≠ X) HO.out (X := X) (by omega) (fun q _ h2 => by omega)) hb1)
          have hXw : w.heap.size ≤ X := by omega
          clear h0 h1 h2 hb1 hX HO
          go_loopw [5, 27] (fun o i wq => ∃ (j : Nat), j ≤ t.length ∧ i = .int .i64 j ∧ Aside0 (kIt.R 93 wq w.heap.size (fun q => q ≠ X) o (pairs (s.take k) t ++ jrow x (t.take j))) ∧ Aside0 (wq.heap[X]? = some (.cells #[.int .i64 x.f0, .int .i64 x.f1, .int .i64 x.f2] 93 (0, 0))) ∧ Aside0 (Below w.heap.size w wq)) (fun _ i _ => t.length - (intOf i).toNat)
          case atStart => exact ⟨0, Nat.zero_le _, rfl, ⟨by simpa [jrow] using HO1.out⟩, ⟨B0⟩, HB⟩
          case round =>
            clear HO1 HB B0
            obtain ⟨j, hj, rfl, HO, HB0, HB⟩ := hrel
            by_cases hlt2 : j < t.length
            · obtain ⟨ad2, y, e, HY, i0, i1, i2⟩ := rdIt HR2.out HB.out hlt2
              cases e
              have hwq := HB.out.size
              have hjl := jrow_len x (t.take j)
              have b0 := blk_cell HB0.out 0
              have b1 := blk_cell HB0.out 1
              have b2 := blk_cell HB0.out 2
              have hXl := blk_lt HB0.out
              cases hxy : (x.f0 == y.f0)
              · go_wp2
                go_roundw
                case rel => exact ⟨j + 1, by omega, by go_num, ⟨by rw [jrow_snoc HY.out, if_neg (by simpa using hxy), List.append_nil]; exact Kd.R_alloc HO.out _⟩, ⟨blk_alloc HB0.out _⟩, ⟨below_alloc HB.out _⟩⟩
                case measure => simp [intOf]; omega
              · go_wp2
                refine name_world fun W hW => ?_
                have B1 : W.heap[wr.heap.size]? = some (.cells #[.int .i64 y.f0, .int .i64 y.f1, .int .i64 y.f2] 93 (0, 0)) := by rw [hW]; exact blk_new wr _
                have hb1 : Below wr.heap.size wr W := by rw [hW]; repeat (first | exact Below.refl _ _ | apply below_alloc | refine below_set ?_ (by simp))
                clear hW
                generalize hY : wr.heap.size = Y at B1 ⊢
                have HX0 := Aside0.mk (blk_below HB0.out hb1)
                have HO1 := Aside0.mk (Kd.R_below (R_new (ok' := fun q => q ≠ X ∧ q ≠ Y) HO.out (X := Y) (by omega) (fun q h1 h2 => ⟨h1, by omega⟩)) hb1)
                replace HB := Aside0.mk (bthen HB.out hb1)
                have hW0 := HB.out.size
                have hYl := blk_lt B1
                have hXW := blk_lt HX0.out
                clear b0 b1 b2 i0 i1 i2 hb1 HO hY HB0
                have c0 := blk_cell HX0.out 0
                have c1 := blk_cell HX0.out 1
                have c2 := blk_cell HX0.out 2
                have d1 := blk_cell B1 1
                have d2 := blk_cell B1 2
                have HOd := Aside0.mk (R_drew HO1.out)
                go_region_held3 (fun w' => w'.cell? ⟨X, 0, none⟩ = some (.int .i64 x.f0) ∧ w'.cell? ⟨X, 1, none⟩ = some (.int .i64 x.f1) ∧ w'.cell? ⟨X, 2, none⟩ = some (.int .i64 x.f2) ∧ w'.cell? ⟨Y, 1, none⟩ = some (.int .i64 y.f1) ∧ w'.cell? ⟨Y, 2, none⟩ = some (.int .i64 y.f2)) (first | exact ⟨c0, c1, c2, d1, d2⟩ | exact HM | exact ⟨pw_cell_below (by repeat (first | exact Below.refl _ _ | apply below_alloc | apply below_drew | assumption)) c0, pw_cell_below (by repeat (first | exact Below.refl _ _ | apply below_alloc | apply below_drew | assumption)) c1, pw_cell_below (by repeat (first | exact Below.refl _ _ | apply below_alloc | apply below_drew | assumption)) c2, pw_cell_below (by repeat (first | exact Below.refl _ _ | apply below_alloc | apply below_drew | assumption)) d1, pw_cell_below (by repeat (first | exact Below.refl _ _ | apply below_alloc | apply below_drew | assumption)) d2⟩)
                  (first
                   | (go_at_call 83; ((with_reducible refine (impl_joinedVal _ _ _).mono ?_); rintro e w' ⟨rfl, rfl⟩))
                   | (refine stepIt (W := W.drew) (base := w.heap.size) (xs := pairs (s.take k) t ++ jrow x (t.take j)) (ok := fun q => q ≠ X ∧ q ≠ Y) rfl rfl rfl HOd.out (fun q hq => by have : W.drew.heap.size = W.heap.size := rfl; first | trivial | omega) (by show _ ≤ W.heap.size; omega) (by rw [List.length_append]; rw [List.length_take] at hjl; omega) ?_; intro v1 w1 hr1 hb1 hg1; have HO4 := Aside0.mk hr1; have HB4 := Aside0.mk (below_more (below_drew HB.out) hb1); have HG4 := Aside0.mk hg1; have HM : w1.cell? ⟨X, 0, none⟩ = some (.int .i64 x.f0) ∧ w1.cell? ⟨X, 1, none⟩ = some (.int .i64 x.f1) ∧ w1.cell? ⟨X, 2, none⟩ = some (.int .i64 x.f2) ∧ w1.cell? ⟨Y, 1, none⟩ = some (.int .i64 y.f1) ∧ w1.cell? ⟨Y, 2, none⟩ = some (.int .i64 y.f2) := ⟨cell_app HOd.out hg1 c0 (by first | exact Or.inl (by assumption) | exact Or.inr (fun e => e rfl) | exact Or.inr (fun e => e.1 rfl) | exact Or.inr (fun e => e.2 rfl) | exact Or.inl (Nat.lt_of_lt_of_le (by assumption) (by omega))), cell_app HOd.out hg1 c1 (by first | exact Or.inl (by assumption) | exact Or.inr (fun e => e rfl) | exact Or.inr (fun e => e.1 rfl) | exact Or.inr (fun e => e.2 rfl) | exact Or.inl (Nat.lt_of_lt_of_le (by assumption) (by omega))), cell_app HOd.out hg1 c2 (by first | exact Or.inl (by assumption) | exact Or.inr (fun e => e rfl) | exact Or.inr (fun e => e.1 rfl) | exact Or.inr (fun e => e.2 rfl) | exact Or.inl (Nat.lt_of_lt_of_le (by assumption) (by omega))), cell_app HOd.out hg1 d1 (by first | exact Or.inl (by assumption) | exact Or.inr (fun e => e rfl) | exact Or.inr (fun e => e.1 rfl) | exact Or.inr (fun e => e.2 rfl) | exact Or.inl (Nat.lt_of_lt_of_le (by assumption) (by omega))), cell_app HOd.out hg1 d2 (by first | exact Or.inl (by assumption) | exact Or.inr (fun e => e rfl) | exact Or.inr (fun e => e.1 rfl) | exact Or.inr (fun e => e.2 rfl) | exact Or.inl (Nat.lt_of_lt_of_le (by assumption) (by omega)))⟩; clear hr1 hb1 hg1))
                have X4 := Aside0.mk (blk_app HOd.out HG4.out (show W.drew.heap[X]? = _ from HX0.out) (fun e => e.1 rfl))
                go_wp2
                go_roundw
                case rel => exact ⟨j + 1, by omega, by go_num, ⟨by have h4 := HO4.out; rw [wrapI] at h4; rw [jrow_snoc HY.out, if_pos (by simpa using hxy), ← List.append_assoc]; exact Kd.R_mono h4 (fun _ h => h.1)⟩, X4, HB4⟩
                case measure => simp [intOf]; omega
            · obtain rfl : j = t.length := by omega
              rw [List.take_length] at HO
              go_wp2
              go_roundw
              case rel => exact ⟨k + 1, by omega, by go_num, ⟨by rw [pairs_snoc HX.out]; exact Kd.R_mono HO.out (fun _ _ => trivial)⟩, HB⟩
              case measure => simp [intOf]; omega
        · obtain rfl : k = s.length := by omega
          rw [List.take_length] at HO
          have hpl := pairs_len t s
          have hpl2 := Nat.mul_le_mul hl2 hl1
          go_wp2_with (go_at_call 84; ((with_reducible refine (impl_gathered _ (pairs s t) _ (Sl.of_R HO.out) hfit.out (by omega)).mono ?_); rintro e w' ⟨u, rfl, hr, hb⟩; have HF := Aside0.mk (Kd.R_lower hr HB.out.size); replace HB := Aside0.mk (bthen HB.out hb); clear hr hb))
          go_ret
          exact RetR.mk (by rw [setJoin, hs, ht]; exact HF.out) HB.out
end Go.Proofs.Ytlmglffdmoklcaa.X
