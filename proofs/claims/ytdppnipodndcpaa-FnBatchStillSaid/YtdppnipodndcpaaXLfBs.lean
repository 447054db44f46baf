/- What there is changes only at times of rows, and their joins: plainly, and the law's walk. Conditions: none. -/
import Derived.Test.YtdppnipodndcpaaXDrOdd
import Derived.Test.YtdppnipodndcpaaXLw
import Derived.Test.YtdppnipodndcpaaXPlR
import Derived.Test.YtdppnipodndcpaaXBytes
import Derived.RegionTactic
import Derived.BigRegion
namespace Go.Proofs.Ytdppnipodndcpaa.X
open Go.RowKit Go.Proofs.YtdppnipodndcpaaW.PrintWords
set_option linter.unusedVariables false
set_option linter.unusedSimpArgs false

/-- the join of the times of such rows as are not later -/
def stillT (t : Tm) : List Rw → Tm → Tm
  | [], j => j
  | r :: l, j => stillT t l (if tLess r.f2 t then tJoin j r.f2 else j)
theorem stillT_snoc (t : Tm) : ∀ (l : List Rw) (r : Rw) (j : Tm), stillT t (l ++ [r]) j = if tLess r.f2 t then tJoin (stillT t l j) r.f2 else stillT t l j
  | [], r, j => rfl
  | x :: l, r, j => by rw [List.cons_append, stillT, stillT_snoc t l r]; rfl
theorem tLess_ok {s t : Tm} (hs : tOk s = true) (ht : tOk t = true) : tLess s t = below s t := by unfold tLess; rw [hs, ht]; rfl
theorem tmax_eq (a b : Int) : tmax a b = if a ≤ b then b else a := by unfold tmax; split <;> split <;> omega
theorem stillT_in {t : Tm} (ht : tOk t = true) : ∀ (l : List Rw) (j : Tm), (∀ r ∈ l, rowOk r = true) → tOk j = true → below j t = true → tOk (stillT t l j) = true ∧ below (stillT t l j) t = true ∧ below j (stillT t l j) = true ∧ ∀ r ∈ l, below r.f2 t = below r.f2 (stillT t l j)
  | [], j, _, hj, hb => ⟨hj, hb, by simp [stillT, below], fun r hr => by cases hr⟩
  | r :: l, j, hl, hj, hb => by
    have hr : tOk r.f2 = true := by have := hl r List.mem_cons_self; simp only [rowOk, Bool.and_eq_true] at this; exact this.1.1.2
    rw [stillT, tLess_ok hr ht]
    cases hbt : below r.f2 t
    · obtain ⟨i1, i2, i3, i4⟩ := stillT_in ht l j (fun x hx => hl x (List.mem_cons_of_mem _ hx)) hj hb
      simp only [Bool.false_eq_true, if_false]
      refine ⟨i1, i2, i3, fun x hx => ?_⟩
      rcases List.mem_cons.1 hx with rfl | hx
      · rw [hbt]
        cases h : below x.f2 (stillT t l j) with
        | false => rfl
        | true =>
          simp only [below, Bool.and_eq_true, decide_eq_true_eq, Bool.and_eq_false_iff, decide_eq_false_iff_not] at h i2 hbt
          omega
      · exact i4 x hx
    · have hj2 : tJoin j r.f2 = ⟨tmax j.f0 r.f2.f0, tmax j.f1 r.f2.f1⟩ := by unfold tJoin; rw [hj, hr]; rfl
      have m0 := tmax_eq j.f0 r.f2.f0
      have m1 := tmax_eq j.f1 r.f2.f1
      have ho : tOk (tJoin j r.f2) = true := tJoin_in hj hr
      have hb2 : below (tJoin j r.f2) t = true := by
        rw [hj2]
        simp only [below, Bool.and_eq_true, decide_eq_true_eq] at hb hbt ⊢
        rw [m0, m1]; constructor <;> split <;> omega
      obtain ⟨i1, i2, i3, i4⟩ := stillT_in ht l (tJoin j r.f2) (fun x hx => hl x (List.mem_cons_of_mem _ hx)) ho hb2
      simp only [if_true]
      have z0 : j.f0 ≤ (tJoin j r.f2).f0 ∧ r.f2.f0 ≤ (tJoin j r.f2).f0 ∧ j.f1 ≤ (tJoin j r.f2).f1 ∧ r.f2.f1 ≤ (tJoin j r.f2).f1 := by
        rw [hj2]
        simp only
        rw [m0, m1]
        refine ⟨?_, ?_, ?_, ?_⟩ <;> split <;> omega
      generalize tJoin j r.f2 = z at *
      simp only [below, Bool.and_eq_true, decide_eq_true_eq] at i3
      refine ⟨i1, i2, ?_, fun x hx => ?_⟩
      · simp only [below, Bool.and_eq_true, decide_eq_true_eq]; omega
      · rcases List.mem_cons.1 hx with rfl | hx
        · rw [hbt]; symm
          simp only [below, Bool.and_eq_true, decide_eq_true_eq]; omega
        · exact i4 x hx
theorem filter_congr' {α : Type} {p q : α → Bool} : ∀ {l : List α}, (∀ x ∈ l, p x = q x) → l.filter p = l.filter q
  | [], _ => rfl
  | x :: l, h => by
    have h1 := h x List.mem_cons_self
    have h2 := filter_congr' (l := l) (fun y hy => h y (List.mem_cons_of_mem _ hy))
    simp only [List.filter_cons, h1, h2]
/-- FnBatchStill, told plainly -/
theorem batchAt_still {l : List Rw} {t : Tm} (hl : rowsOk l = true) (ht : tOk t = true) : tOk (stillT t l ⟨0, 0⟩) = true ∧ batchAt l (stillT t l ⟨0, 0⟩) = batchAt l t := by
  have h0 : tOk ⟨0, 0⟩ = true := rfl
  have hb0 : below ⟨0, 0⟩ t = true := by simp only [tOk, below, Bool.and_eq_true, decide_eq_true_eq] at ht ⊢; omega
  obtain ⟨i1, i2, i3, i4⟩ := stillT_in ht l ⟨0, 0⟩ (rowsOk_all hl).2 h0 hb0
  refine ⟨i1, ?_⟩
  unfold batchAt
  rw [hl, i1, ht]
  simp only [Bool.and_self, if_true]
  unfold present presentOf
  rw [filter_congr' (fun r hr => (i4 r hr).symm)]
set_option maxRecDepth 100000 in
set_option maxHeartbeats 4000000 in
theorem laws_FnBatchStill (v : Value) (l : List Int) (w : World) (h : IsBytes w v l) : Calls Try.prog 10 #[v] w (RetV w (.bool true)) := by
  have H := Aside0.mk h
  obtain ⟨⟨A, c, rfl, hc, hr⟩, hb⟩ := h
  have hm := Kd.C_max hr
  clear hr hb
  have HB := Aside0.mk (Below.refl w.heap.size w)
  go_enter Try.func10, Try.ntmps10
  by_cases hl : 1048576 < l.length
  · have hl' : (l.length : Int) > 1048576 := by omega
    go_wp2
    go_ret
    exact RetV.mk rfl HB.out
  have hl' : ¬ (l.length : Int) > 1048576 := by omega
  go_upto_region 4 with (go_at_call 52; ((with_reducible refine (spec_DrawBatchAt (.slice A l.length c) l w H.out.sl H.out.by_).mono ?_); rintro e wa ⟨vs, s, t, rfl, h1, h3, h2, h5⟩; have HS := Aside0.mk h1; have DS := Aside0.mk h3; replace HB := Aside0.mk h5; clear h1 h2 h3 h5))
  refine name_world fun W1 hW => ?_
  have B0 : W1.heap[wa.heap.size]? = some (.cells #[.int .i64 t.f0, .int .i64 t.f1] 32 (0, 0)) := by rw [hW]; exact blk_new wa _
  have hb1 : Below wa.heap.size wa W1 := by rw [hW]; repeat (first | exact Below.refl _ _ | apply below_alloc | refine below_set ?_ (by simp))
  clear hW
  generalize hX : wa.heap.size = X at B0 ⊢
  replace HS := Aside0.mk (HS.out.below hb1)
  have hwa := HB.out.size
  have hXw : w.heap.size ≤ X := by omega
  replace HB := Aside0.mk (bthen HB.out hb1)
  have HX0 := Aside0.mk B0
  have k0 := blk_cell B0 0
  have k1 := blk_cell B0 1
  clear B0 hX hb1 hwa
  have q0 : decide (batchAt s t = batchAt s t) = true := decide_eq_true rfl
  by_cases hgo : rowsOk s = true ∧ tOk t = true
  · obtain ⟨hs, ht⟩ := hgo
    have ht' : tOk ⟨t.f0, t.f1⟩ = true := ht
    obtain ⟨e1, e2⟩ := batchAt_still hs ht
    have HE2 := Aside0.mk e2
    have hset : setOk (batchAt s t) = true := by
      unfold batchAt; rw [hs, ht]; simp only [Bool.and_self, if_true]; exact present_setOk (FewR.of hs DS.out) (by omega) (by omega) t
    obtain ⟨As, cs, rfl, hcs, hCs⟩ := HS.out
    have hms := Kd.C_max hCs
    clear hCs e2 e1
    go_upto_region 8 with (first
      | (go_at_call 53; ((with_reducible refine (impl_BatchAt (.slice As s.length cs) s t _ HS.out).mono ?_); rintro e w' ⟨vx, rfl, hr, hb⟩; (try replace HS := Aside0.mk (HS.out.below hb)); (try replace HX0 := Aside0.mk (HX0.out.below hb)); (try replace HX := Aside0.mk (HX.out.below hb)); (try replace HY := Aside0.mk (HY.out.below hb)); replace k0 := pw_cell_below hb k0; replace k1 := pw_cell_below hb k1; replace HX0 := Aside0.mk (blk_below HX0.out hb); replace HB := Aside0.mk (bthen HB.out hb); have HX := Aside0.mk (Sl.of_R hr); clear hr hb))
      | (go_at_call 55; ((with_reducible refine (spec_BatchAt (.slice As s.length cs) s t _ HS.out).mono ?_); rintro e w' ⟨vy, rfl, hr, hb⟩; (try replace HS := Aside0.mk (HS.out.below hb)); (try replace HX0 := Aside0.mk (HX0.out.below hb)); (try replace HX := Aside0.mk (HX.out.below hb)); (try replace HY := Aside0.mk (HY.out.below hb)); replace k0 := pw_cell_below hb k0; replace k1 := pw_cell_below hb k1; replace HX0 := Aside0.mk (blk_below HX0.out hb); replace HB := Aside0.mk (bthen HB.out hb); have HY := Aside0.mk (Sl.of_R hr); clear hr hb))
      | (go_at_call 54; ((with_reducible refine (laws_lwItems vx vy (batchAt s t) (batchAt s t) _ HX.out HY.out).mono ?_); rintro e w' ⟨rfl, hb⟩; (try replace HS := Aside0.mk (HS.out.below hb)); (try replace HX0 := Aside0.mk (HX0.out.below hb)); (try replace HX := Aside0.mk (HX.out.below hb)); (try replace HY := Aside0.mk (HY.out.below hb)); replace k0 := pw_cell_below hb k0; replace k1 := pw_cell_below hb k1; replace HX0 := Aside0.mk (blk_below HX0.out hb); replace HB := Aside0.mk (bthen HB.out hb); clear hb))
      | (go_at_call 17; ((with_reducible refine (spec_RowsOk (.slice As s.length cs) s _ HS.out).mono ?_); rintro e w' ⟨rfl, hb⟩; (try replace HS := Aside0.mk (HS.out.below hb)); (try replace HX0 := Aside0.mk (HX0.out.below hb)); (try replace HX := Aside0.mk (HX.out.below hb)); (try replace HY := Aside0.mk (HY.out.below hb)); replace k0 := pw_cell_below hb k0; replace k1 := pw_cell_below hb k1; replace HX0 := Aside0.mk (blk_below HX0.out hb); replace HB := Aside0.mk (bthen HB.out hb); clear hb))
      | (go_at_call 56; ((with_reducible refine (spec_TimeOk t.f0 t.f1 _).mono ?_); rintro e w' ⟨rfl, hb⟩; (try replace HS := Aside0.mk (HS.out.below hb)); (try replace HX0 := Aside0.mk (HX0.out.below hb)); (try replace HX := Aside0.mk (HX.out.below hb)); (try replace HY := Aside0.mk (HY.out.below hb)); replace k0 := pw_cell_below hb k0; replace k1 := pw_cell_below hb k1; replace HX0 := Aside0.mk (blk_below HX0.out hb); replace HB := Aside0.mk (bthen HB.out hb); clear hb)))
    clear HY
    refine name_world fun W2 hW => ?_
    have BJ : W2.heap[w'.heap.size]? = some (.cells #[.int .i64 0, .int .i64 0] 32 (0, 0)) := by rw [hW]; exact blk_new w' _
    have hb1 : Below w'.heap.size w' W2 := by rw [hW]; repeat (first | exact Below.refl _ _ | apply below_alloc | refine below_set ?_ (by simp))
    clear hW
    generalize hJ : w'.heap.size = J at BJ ⊢
    have hJb : w'.heap.size ≤ J := by omega
    have HBW := HB
    replace HB := Aside0.mk hb1
    have HJ := Aside0.mk BJ
    clear BJ hb1 hJ k0 k1
    generalize batchAt s t = x at *
    obtain ⟨Ax, cx, rfl, hcx, hCx⟩ := HX.out
    have hmx := Kd.C_max hCx
    clear hCx
    go_wp2
    go_loopw [7] (fun i wr => ∃ k : Nat, k ≤ s.length ∧ i = .int .i64 k ∧ Aside0 (wr.heap[J]? = some (.cells #[.int .i64 (stillT t (s.take k) ⟨0, 0⟩).f0, .int .i64 (stillT t (s.take k) ⟨0, 0⟩).f1] 32 (0, 0))) ∧ Aside0 (Below w'.heap.size w' wr)) (fun i _ => s.length - (intOf i).toNat)
    case atStart => exact ⟨0, Nat.zero_le _, rfl, HJ, HB⟩
    case round =>
      clear HJ HB
      obtain ⟨k, hk, rfl, HJ, HB⟩ := hrel
      by_cases hlt : k < s.length
      · obtain ⟨A4, c4, e4, hc4, hC4⟩ := HS.out.below HB.out
        cases e4
        obtain ⟨ad, y, e, HY, h0, h1, h2, h3, h4⟩ := rdRw hC4 (Below.refl _ _) hlt
        cases e
        clear hC4
        have hst := stillT_snoc t (s.take k) y ⟨0, 0⟩
        rw [← take_snoc HY.out] at hst
        obtain ⟨jj, hjj⟩ : ∃ jj, jj = stillT t (s.take k) ⟨0, 0⟩ := ⟨_, rfl⟩
        rw [← hjj] at hst HJ
        have HX1 := blk_below HX0.out HB.out
        have k0 := blk_cell HX1 0
        have k1 := blk_cell HX1 1
        have p0 := fun u => Ext.cell h2 u
        have p1 := fun u => Ext.cell h3 u
        have p2 := fun u => Ext.cell k0 u
        have p3 := fun u => Ext.cell k1 u
        clear HX1
        cases hle : tLess y.f2 t
        · have TL : ∀ W, Calls Try.prog 57 #[.agg #[.int .i64 y.f2.f0, .int .i64 y.f2.f1], .agg #[.int .i64 t.f0, .int .i64 t.f1]] W (RetV W (.bool false)) := fun W => by
            have := impl_TimeLess y.f2.f0 y.f2.f1 t.f0 t.f1 W
            rw [show tLess ⟨y.f2.f0, y.f2.f1⟩ ⟨t.f0, t.f1⟩ = false from hle] at this
            exact this
          have HST := Aside0.mk (show stillT t (s.take (k + 1)) ⟨0, 0⟩ = jj by rw [hst, hle]; rfl)
          clear hle hst hjj
          go_wp2
          refine wp_region_ext (by kernel_rfl) (by kernel_rfl) ?_
          repeat (any_goals (first | go_big_quiet_step ((go_at_call 57; exact Calls.extV (TL _))) | quiet_step ((go_at_call 57; exact Calls.extV (TL _))) | (refine wpQuiet_step (fun K hK => ?_); go_simp; split <;> (refine hK _ ?_; clear hK K))))
          all_goals (refine wpQuiet_nil ?_; intro u)
          replace HJ := Aside0.mk (blk_below HJ.out u.bel)
          replace HB := Aside0.mk (bthen HB.out u.bel)
          clear p0 p1 p2 p3 h0 h1 h2 h3 h4 k0 k1 TL
          generalize u.w' = W at *
          go_wp2
          go_roundw
          case rel => exact ⟨k + 1, by omega, by go_num, ⟨by rw [HST.out]; exact HJ.out⟩, HB⟩
          case measure => simp [intOf]; omega
        · have TL : ∀ W, Calls Try.prog 57 #[.agg #[.int .i64 y.f2.f0, .int .i64 y.f2.f1], .agg #[.int .i64 t.f0, .int .i64 t.f1]] W (RetV W (.bool true)) := fun W => by
            have := impl_TimeLess y.f2.f0 y.f2.f1 t.f0 t.f1 W
            rw [show tLess ⟨y.f2.f0, y.f2.f1⟩ ⟨t.f0, t.f1⟩ = true from hle] at this
            exact this
          have HST := Aside0.mk (show stillT t (s.take (k + 1)) ⟨0, 0⟩ = tJoin jj y.f2 by rw [hst, hle]; rfl)
          clear hle hst hjj
          go_wp2
          refine wp_region_ext (by kernel_rfl) (by kernel_rfl) ?_
          repeat (any_goals (first | go_big_quiet_step ((go_at_call 57; exact Calls.extV (TL _))) | quiet_step ((go_at_call 57; exact Calls.extV (TL _))) | (refine wpQuiet_step (fun K hK => ?_); go_simp; split <;> (refine hK _ ?_; clear hK K))))
          all_goals (refine wpQuiet_nil ?_; intro u)
          replace HJ := Aside0.mk (blk_below HJ.out u.bel)
          replace HB := Aside0.mk (bthen HB.out u.bel)
          replace h2 := pw_cell_below u.bel h2
          replace h3 := pw_cell_below u.bel h3
          clear p0 p1 p2 p3 h0 h1 h4 k0 k1 TL
          generalize u.w' = W at *
          have c2 : W.drew.cell? ⟨(ad.add (k * 5)).block, (ad.add (k * 5)).off + 2, none⟩ = some (.int .i64 y.f2.f0) := h2
          have c3 : W.drew.cell? ⟨(ad.add (k * 5)).block, (ad.add (k * 5)).off + 3, none⟩ = some (.int .i64 y.f2.f1) := h3
          have j0 : W.drew.cell? ⟨J, 0, none⟩ = some (.int .i64 jj.f0) := blk_cell HJ.out 0
          have j1 : W.drew.cell? ⟨J, 1, none⟩ = some (.int .i64 jj.f1) := blk_cell HJ.out 1
          replace HJ := Aside0.mk (blk_below HJ.out (below_drew (Below.refl _ _)))
          replace HB := Aside0.mk (below_drew HB.out)
          go_wp2
          go_still_tail 6, (by kernel_rfl)
          change wpList _ _ _ _ _ W.drew
          generalize W.drew = W2 at *
          go_wp2_with (go_at_call 19; ((with_reducible refine (impl_TimeJoin jj.f0 jj.f1 y.f2.f0 y.f2.f1 _).mono ?_); rintro e w5 ⟨rfl, hb⟩; replace HJ := Aside0.mk (blk_below HJ.out hb); replace HB := Aside0.mk (bthen HB.out hb); have l0 : w5.cell? ⟨J, 0, none⟩ = some (.int .i64 jj.f0) := blk_cell HJ.out 0; have l1 : w5.cell? ⟨J, 1, none⟩ = some (.int .i64 jj.f1) := blk_cell HJ.out 1; have lf0 := blk_fz HJ.out 0; have lf1 := blk_fz HJ.out 1; clear hb))
          go_roundw
          case rel => exact ⟨k + 1, by omega, by go_num, ⟨by rw [HST.out]; exact blk2 HJ.out _ _⟩, ⟨below_set (below_set HB.out hJb) hJb⟩⟩
          case measure => simp [intOf]; omega
      · obtain rfl : k = s.length := by omega
        rw [List.take_length] at HJ
        have j0 := blk_cell HJ.out 0
        have j1 := blk_cell HJ.out 1
        replace HS := Aside0.mk (HS.out.below HB.out)
        replace HX := Aside0.mk (HX.out.below HB.out)
        replace HB := Aside0.mk (bthen HBW.out HB.out)
        clear HBW HX0
        generalize hj : stillT t s ⟨0, 0⟩ = jj at *
        have q2 := decide_eq_true HE2.out
        clear hj
        by_cases hx0 : x.length = 0
        · have hx1 : ((x.length : Int) == 0) = true := by rw [hx0]; rfl
          clear hx0
          go_wp2_with (first
            | (go_at_call 53; ((with_reducible refine (impl_BatchAt (.slice As s.length cs) s jj _ HS.out).mono ?_); rintro e w' ⟨vb, rfl, hr, hb⟩; (try replace HS := Aside0.mk (HS.out.below hb)); (try replace HX := Aside0.mk (HX.out.below hb)); (try replace HC := Aside0.mk (HC.out.below hb)); replace HB := Aside0.mk (bthen HB.out hb); have HC := Aside0.mk (Sl.of_R hr); clear hr hb))
            | (go_at_call 54; ((with_reducible refine (laws_lwItems vb (.slice Ax x.length cx) (batchAt s jj) x _ HC.out HX.out).mono ?_); rintro e w' ⟨rfl, hb⟩; (try replace HS := Aside0.mk (HS.out.below hb)); (try replace HX := Aside0.mk (HX.out.below hb)); (try replace HC := Aside0.mk (HC.out.below hb)); replace HB := Aside0.mk (bthen HB.out hb); clear hb)))
          go_ret
          exact RetV.mk rfl HB.out
        · have hx1 : ((x.length : Int) == 0) = false := beq_eq_false_iff_ne.2 (by omega)
          clear hx0
          go_wp2_with (first
            | (go_at_call 53; ((with_reducible refine (impl_BatchAt (.slice As s.length cs) s jj _ HS.out).mono ?_); rintro e w' ⟨vb, rfl, hr, hb⟩; (try replace HS := Aside0.mk (HS.out.below hb)); (try replace HX := Aside0.mk (HX.out.below hb)); (try replace HC := Aside0.mk (HC.out.below hb)); replace HB := Aside0.mk (bthen HB.out hb); have HC := Aside0.mk (Sl.of_R hr); clear hr hb))
            | (go_at_call 54; ((with_reducible refine (laws_lwItems vb (.slice Ax x.length cx) (batchAt s jj) x _ HC.out HX.out).mono ?_); rintro e w' ⟨rfl, hb⟩; (try replace HS := Aside0.mk (HS.out.below hb)); (try replace HX := Aside0.mk (HX.out.below hb)); (try replace HC := Aside0.mk (HC.out.below hb)); replace HB := Aside0.mk (bthen HB.out hb); clear hb))
            | (go_at_call 58; ((with_reducible refine (impl_SetOk (.slice Ax x.length cx) x _ HX.out).mono ?_); rintro e w' ⟨rfl, hb⟩; (try replace HS := Aside0.mk (HS.out.below hb)); (try replace HX := Aside0.mk (HX.out.below hb)); (try replace HC := Aside0.mk (HC.out.below hb)); replace HB := Aside0.mk (bthen HB.out hb); clear hb)))
          go_ret
          exact RetV.mk rfl HB.out
  · have hbad : rowsOk s = false ∨ (rowsOk s = true ∧ tOk ⟨t.f0, t.f1⟩ = false) := by
      cases h1 : rowsOk s
      · exact .inl rfl
      · exact .inr ⟨rfl, Bool.eq_false_iff.2 fun h2 => hgo ⟨h1, h2⟩⟩
    rcases hbad with hs | ⟨hs, ht⟩
    all_goals
      go_wp2_with (first
        | (go_at_call 53; ((with_reducible refine (impl_BatchAt vs s t _ HS.out).mono ?_); rintro e w' ⟨vx, rfl, hr, hb⟩; (try replace HS := Aside0.mk (HS.out.below hb)); (try replace HX := Aside0.mk (HX.out.below hb)); (try replace HY := Aside0.mk (HY.out.below hb)); replace k0 := pw_cell_below hb k0; replace k1 := pw_cell_below hb k1; replace HB := Aside0.mk (bthen HB.out hb); have HX := Aside0.mk (Sl.of_R hr); clear hr hb))
        | (go_at_call 55; ((with_reducible refine (spec_BatchAt vs s t _ HS.out).mono ?_); rintro e w' ⟨vy, rfl, hr, hb⟩; (try replace HS := Aside0.mk (HS.out.below hb)); (try replace HX := Aside0.mk (HX.out.below hb)); (try replace HY := Aside0.mk (HY.out.below hb)); replace k0 := pw_cell_below hb k0; replace k1 := pw_cell_below hb k1; replace HB := Aside0.mk (bthen HB.out hb); have HY := Aside0.mk (Sl.of_R hr); clear hr hb))
        | (go_at_call 54; ((with_reducible refine (laws_lwItems vx vy (batchAt s t) (batchAt s t) _ HX.out HY.out).mono ?_); rintro e w' ⟨rfl, hb⟩; (try replace HS := Aside0.mk (HS.out.below hb)); (try replace HX := Aside0.mk (HX.out.below hb)); (try replace HY := Aside0.mk (HY.out.below hb)); replace k0 := pw_cell_below hb k0; replace k1 := pw_cell_below hb k1; replace HB := Aside0.mk (bthen HB.out hb); clear hb))
        | (go_at_call 17; ((with_reducible refine (spec_RowsOk vs s _ HS.out).mono ?_); rintro e w' ⟨rfl, hb⟩; (try replace HS := Aside0.mk (HS.out.below hb)); (try replace HX := Aside0.mk (HX.out.below hb)); (try replace HY := Aside0.mk (HY.out.below hb)); replace k0 := pw_cell_below hb k0; replace k1 := pw_cell_below hb k1; replace HB := Aside0.mk (bthen HB.out hb); clear hb))
        | (go_at_call 56; ((with_reducible refine (spec_TimeOk t.f0 t.f1 _).mono ?_); rintro e w' ⟨rfl, hb⟩; (try replace HS := Aside0.mk (HS.out.below hb)); (try replace HX := Aside0.mk (HX.out.below hb)); (try replace HY := Aside0.mk (HY.out.below hb)); replace k0 := pw_cell_below hb k0; replace k1 := pw_cell_below hb k1; replace HB := Aside0.mk (bthen HB.out hb); clear hb)))
      go_ret
      exact RetV.mk rfl HB.out
end Go.Proofs.Ytdppnipodndcpaa.X
