/- Conditions: none. -/
import Derived.Test.YtkdendlgaaimbaaYDSb
import Derived.Test.YtkdendlgaaimbaaYDPlH
namespace Go.Proofs.Ytkdendlgaaimbaa.X
open Go.RowKit Go.Proofs.YtkdendlgaaimbaaW.PrintWords
set_option linter.unusedVariables false
set_option linter.unusedSimpArgs false
theorem moveGo_snoc (t : Tm) : ∀ (l : List Tm) (o s : Tm), moveGo t o (l ++ [s]) = tMeet (moveGo t o l) (tJoin s t)
 | [], o, s => rfl
 | x :: l, o, s => by rw [List.cons_append, moveGo, moveGo, moveGo_snoc t l]
set_option maxRecDepth 100000 in
set_option maxHeartbeats 4000000 in
theorem impl_moved (v : Value) (f : List Tm) (t : Tm) (w : World) (h : Sl kTm w v f) : Calls Try.prog 132 #[v, .agg #[.int .i64 t.f0, .int .i64 t.f1]] w (RetV w (.agg #[.int .i64 (moved f t).f0, .int .i64 (moved f t).f1])) := by
 obtain ⟨A, c_, rfl, HC, hr⟩ := h
 have hm := Kd.C_max hr
 have HR := Aside0.mk hr
 clear hr
 have HT := Aside0.mk (blk_alloc (blk_new w (.cells #[.int .i64 t.f0, .int .i64 t.f1] 43)) (.cells #[.int .i64 0, .int .i64 0] 43))
 have HC := Aside0.mk (blk_two w (.cells #[.int .i64 t.f0, .int .i64 t.f1] 43) (.cells #[.int .i64 0, .int .i64 0] 43))
 have HB := Aside0.mk (below_alloc (below_alloc (Below.refl w.heap.size w) (.cells #[.int .i64 t.f0, .int .i64 t.f1] 43)) (.cells #[.int .i64 0, .int .i64 0] 43))
 have hw1 : ((w.alloc (.cells #[.int .i64 t.f0, .int .i64 t.f1] 43)).alloc (.cells #[.int .i64 0, .int .i64 0] 43)).heap.size = w.heap.size + 2 := by simp
 have HW1 := Aside0.mk hw1
 clear hw1
 go_enter Try.func132, Try.ntmps132
 by_cases hn : f.length = 0
 ·obtain rfl : f = [] := List.eq_nil_of_length_eq_zero hn
  have HB := Aside0.mk (Below.refl w.heap.size w)
  go_wp2
  all_goals (refine bodyPost_ret (by simp [results, Try.results132, go_sem, *]; rfl) rfl (RetV.mk ?_ (by repeat (first | exact HB.out | apply below_alloc | refine below_set ?_ (by omega)))); rfl)
 ·have hn2 : ((f.length : Int) == 0) = false := beq_eq_false_iff_ne.2 (by omega)
  go_upto_region 3 with fail
  generalize ((w.alloc (.cells #[.int .i64 t.f0, .int .i64 t.f1] 43)).alloc (.cells #[.int .i64 0, .int .i64 0] 43)) = W0 at *
  obtain ⟨ad, s0, e, HX, h0, h1⟩ := rdTm0 HR.out HB.out (show 0 < f.length by omega)
  cases e
  have hp : 0 < f.length := by omega
  have hp2 : (0 : Int) < (f.length : Int) := by omega
  have k0 : W0.cell? ⟨w.heap.size, 0, none⟩ = some (.int .i64 t.f0) := blk_cell HT.out 0
  have k1 : W0.cell? ⟨w.heap.size, 1, none⟩ = some (.int .i64 t.f1) := blk_cell HT.out 1
  have TJ : ∀ (s t : Tm) W, Calls Try.prog 166 #[.agg #[.int .i64 s.f0, .int .i64 s.f1], .agg #[.int .i64 t.f0, .int .i64 t.f1]] W (RetV W (.agg #[.int .i64 (tJoin s t).f0, .int .i64 (tJoin s t).f1])) := fun s t W => impl_TimeJoin s.f0 s.f1 t.f0 t.f1 W
  have TM : ∀ (s t : Tm) W, Calls Try.prog 167 #[.agg #[.int .i64 s.f0, .int .i64 s.f1], .agg #[.int .i64 t.f0, .int .i64 t.f1]] W (RetV W (.agg #[.int .i64 (tMeet s t).f0, .int .i64 (tMeet s t).f1])) := fun s t W => impl_TimeMeet s.f0 s.f1 t.f0 t.f1 W
  have HFL := Aside0.mk (show moved f t = moveGo t (tJoin s0 t) f by
   cases f with
   | nil => simp at hp
   | cons a r => have := HX.out; simp at this; rw [← this]; rfl)
  have d0 : W0.drew.cell? ad = some (.int .i64 s0.f0) := h0
  have d1 : W0.drew.cell? ⟨ad.block, ad.off + 1, none⟩ = some (.int .i64 s0.f1) := h1
  have d2 : W0.drew.cell? ⟨w.heap.size, 0, none⟩ = some (.int .i64 t.f0) := k0
  have d3 : W0.drew.cell? ⟨w.heap.size, 1, none⟩ = some (.int .i64 t.f1) := k1
  have hlt : w.heap.size < W0.heap.size := by have := HW1.out; omega
  have hlt2 : ad.block < W0.heap.size := by have h9 : ad.block < w.heap.size := (by have := tmLt HR.out hp; exact this); omega
  go_cut [5] (fun p wc => ∃ X : Nat, p = .pointer (some ⟨X, 0, none⟩) ∧ w.heap.size + 2 ≤ X ∧ Aside0 (wc.heap[X]? = some (.cells #[.int .i64 (tJoin s0 t).f0, .int .i64 (tJoin s0 t).f1] 43 (0, 0))) ∧ Aside0 (wc.heap[w.heap.size]? = some (.cells #[.int .i64 t.f0, .int .i64 t.f1] 43 (0, 0))) ∧ Aside0 (wc.heap[w.heap.size + 1]? = some (.cells #[.int .i64 0, .int .i64 0] 43 (0, 0))) ∧ Aside0 (Below w.heap.size w wc))
  case first =>
   go_region_law (first
    | (go_simp; go_at_call 166; ((with_reducible refine (TJ s0 t W0.drew).mono ?_); rintro e w5 ⟨rfl, hb⟩; have HB5 := Aside0.mk (bthen (below_drew HB.out) hb); have HT5 := Aside0.mk (blk_below (w := W0.drew) HT.out hb); have HC5 := Aside0.mk (blk_below (w := W0.drew) HC.out hb); have hs5 : w.heap.size + 2 ≤ w5.heap.size := (by have h7 := hb.size; have h8 := HW1.out; have h9 : W0.drew.heap.size = W0.heap.size := rfl; omega); clear hb))
    | (go_simp; go_at_call 166; ((with_reducible refine (TJ s0 t (W0.alloc (.cells #[.int .i64 0, .int .i64 0] 43)).drew).mono ?_); rintro e w5 ⟨rfl, hb⟩; have HN5 := Aside0.mk (blk_below (w := (W0.alloc (.cells #[.int .i64 0, .int .i64 0] 43)).drew) (blk_new W0 (.cells #[.int .i64 0, .int .i64 0] 43)) hb); have e0 := blk_cell HN5.out 0; have e1 := blk_cell HN5.out 1; have ef0 := blk_fz HN5.out 0; have ef1 := blk_fz HN5.out 1; have HB5 := Aside0.mk (bthen (below_drew (below_alloc HB.out (.cells #[.int .i64 0, .int .i64 0] 43))) hb); have HT5 := Aside0.mk (blk_below (w := (W0.alloc (.cells #[.int .i64 0, .int .i64 0] 43)).drew) (blk_alloc HT.out (.cells #[.int .i64 0, .int .i64 0] 43)) hb); have HC5 := Aside0.mk (blk_below (w := (W0.alloc (.cells #[.int .i64 0, .int .i64 0] 43)).drew) (blk_alloc HC.out (.cells #[.int .i64 0, .int .i64 0] 43)) hb); clear hb)))
   all_goals go_wp2
   all_goals go_meet
   all_goals first
    | exact ⟨w5.heap.size, rfl, by omega, ⟨blk_new w5 _⟩, ⟨blk_alloc HT5.out _⟩, ⟨blk_alloc HC5.out _⟩, ⟨below_alloc HB5.out _⟩⟩
    | exact ⟨W0.heap.size, rfl, by have := HW1.out; omega, ⟨blk2 HN5.out _ _⟩, ⟨blk_far (blk_far HT5.out (by show w.heap.size ≠ W0.heap.size; have := HW1.out; omega) _) (by show w.heap.size ≠ W0.heap.size; have := HW1.out; omega) _⟩, ⟨blk_far (blk_far HC5.out (by show w.heap.size + 1 ≠ W0.heap.size; have := HW1.out; omega) _) (by show w.heap.size + 1 ≠ W0.heap.size; have := HW1.out; omega) _⟩, ⟨below_set (below_set HB5.out (by show w.heap.size ≤ W0.heap.size; have := HW1.out; omega)) (by show w.heap.size ≤ W0.heap.size; have := HW1.out; omega)⟩⟩
  case rest =>
   clear HT HC HB HW1 d0 d1 d2 d3 k0 k1 h0 h1 hlt hlt2
   obtain ⟨X, rfl, hX, HO, HT, HC, HB⟩ := hcut
   go_at_K
   go_wp2
   go_loopw [19] (fun i wr => ∃ k : Nat, k ≤ f.length ∧ i = .int .i64 k ∧ Aside0 (wr.heap[X]? = some (.cells #[.int .i64 (moveGo t (tJoin s0 t) (f.take k)).f0, .int .i64 (moveGo t (tJoin s0 t) (f.take k)).f1] 43 (0, 0))) ∧ Aside0 (wr.heap[w.heap.size]? = some (.cells #[.int .i64 t.f0, .int .i64 t.f1] 43 (0, 0))) ∧ Aside0 (wr.heap[w.heap.size + 1]? = some (.cells #[.int .i64 0, .int .i64 0] 43 (0, 0))) ∧ Aside0 (Below w.heap.size w wr)) (fun i _ => f.length - (intOf i).toNat)
   case atStart => exact ⟨0, Nat.zero_le _, rfl, HO, HT, HC, HB⟩
   case round =>
    clear HO HT HC HB
    obtain ⟨k, hk, rfl, HO, HT, HC, HB⟩ := hrel
    by_cases hlt : k < f.length
    ·obtain ⟨ad2, s, e, HS, i0, i1⟩ := rdTm HR.out HB.out hlt
     cases e
     have HSN := Aside0.mk (show moveGo t (tJoin s0 t) (f.take (k + 1)) = tMeet (moveGo t (tJoin s0 t) (f.take k)) (tJoin s t) by rw [take_snoc HS.out, moveGo_snoc])
     generalize moveGo t (tJoin s0 t) (f.take k) = o at *
     go_upto_region 7 with fail
     refine name_world fun W2 hW => ?_
     have BY : W2.heap[wr.heap.size]? = some (.cells #[.int .i64 s.f0, .int .i64 s.f1] 43 (0, 0)) := by rw [hW]; exact blk_new wr _
     have hb1 : Below wr.heap.size wr W2 := by rw [hW]; repeat (first | exact Below.refl _ _ | apply below_alloc | refine below_set ?_ (by simp))
     clear hW
     generalize hY : wr.heap.size = Y at BY ⊢
     replace HO := Aside0.mk (blk_below HO.out hb1)
     replace HT := Aside0.mk (blk_below HT.out hb1)
     replace HC := Aside0.mk (blk_below HC.out hb1)
     replace HB := Aside0.mk (bthen HB.out hb1)
     have o0 : W2.drew.cell? ⟨X, 0, none⟩ = some (.int .i64 o.f0) := blk_cell HO.out 0
     have o1 : W2.drew.cell? ⟨X, 1, none⟩ = some (.int .i64 o.f1) := blk_cell HO.out 1
     have y0 : W2.drew.cell? ⟨Y, 0, none⟩ = some (.int .i64 s.f0) := blk_cell BY 0
     have y1 : W2.drew.cell? ⟨Y, 1, none⟩ = some (.int .i64 s.f1) := blk_cell BY 1
     have k0 : W2.drew.cell? ⟨w.heap.size, 0, none⟩ = some (.int .i64 t.f0) := blk_cell HT.out 0
     have k1 : W2.drew.cell? ⟨w.heap.size, 1, none⟩ = some (.int .i64 t.f1) := blk_cell HT.out 1
     clear i0 i1 hb1 hY BY
     go_region_law (first
      | (go_simp; go_at_call 166; ((with_reducible refine (TJ s t W2.drew).mono ?_); rintro e w5 ⟨rfl, hb⟩; have HO5 := Aside0.mk (blk_below (w := W2.drew) HO.out hb); have HT5 := Aside0.mk (blk_below (w := W2.drew) HT.out hb); have HC5 := Aside0.mk (blk_below (w := W2.drew) HC.out hb); have HB5 := Aside0.mk (bthen (below_drew HB.out) hb); have x0 := blk_cell HO5.out 0; have x1 := blk_cell HO5.out 1; clear hb))
      | (go_simp; go_at_call 167; ((with_reducible refine (TM o (tJoin s t) w5).mono ?_); rintro e w6 ⟨rfl, hb⟩; have HO6 := Aside0.mk (blk_below HO5.out hb); have HT6 := Aside0.mk (blk_below HT5.out hb); have HC6 := Aside0.mk (blk_below HC5.out hb); have HB6 := Aside0.mk (bthen HB5.out hb); have z0 := blk_cell HO6.out 0; have z1 := blk_cell HO6.out 1; have zf0 := blk_fz HO6.out 0; have zf1 := blk_fz HO6.out 1; clear hb)))
     all_goals go_wp2
     all_goals go_roundw
     all_goals first
      | exact ⟨k + 1, by omega, by go_num, ⟨by rw [HSN.out]; exact blk2 HO6.out _ _⟩, ⟨blk_far (blk_far HT6.out (by show w.heap.size ≠ X; omega) _) (by show w.heap.size ≠ X; omega) _⟩, ⟨blk_far (blk_far HC6.out (by show w.heap.size + 1 ≠ X; omega) _) (by show w.heap.size + 1 ≠ X; omega) _⟩, ⟨below_set (below_set HB6.out (by show w.heap.size ≤ X; omega)) (by show w.heap.size ≤ X; omega)⟩⟩
      | (simp [intOf]; omega)
    ·obtain rfl : k = f.length := by omega
     rw [List.take_length] at HO
     rw [← HFL.out] at HO
     have x0 := blk_cell HO.out 0
     have x1 := blk_cell HO.out 1
     have z0 := blk_cell HC.out 0
     have z1 := blk_cell HC.out 1
     have zf0 := blk_fz HC.out 0
     have zf1 := blk_fz HC.out 1
     go_wp2
     refine ret_cell (p := 4) (g := w.heap.size + 1) rfl rfl rfl (blk2 HC.out _ _) Try.underlying43 rfl (by kernel_rfl) ?_
     exact RetV.mk rfl (below_set (below_set HB.out (by show w.heap.size ≤ w.heap.size + 1; omega)) (by show w.heap.size ≤ w.heap.size + 1; omega))
end Go.Proofs.Ytkdendlgaaimbaa.X
