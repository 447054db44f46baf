/- Conditions: none. -/
import Derived.Test.YtkdendlgaaimbaaGreatYKSb
import Derived.Test.YtkdendlgaaimbaaGreatYKPlH
namespace Go.Proofs.YtkdendlgaaimbaaGreat.X
open Go.RowKit Go.Proofs.YtkdendlgaaimbaaGreatW.PrintWords
set_option linter.unusedVariables false
set_option linter.unusedSimpArgs false
theorem moveGo_snoc (t : Tm) : ∀ (l : List Tm) (o s : Tm), moveGo t o (l ++ [s]) = tMeet (moveGo t o l) (tJoin s t)
 | [], o, s => rfl
 | x :: l, o, s => by rw [List.cons_append, moveGo, moveGo, moveGo_snoc t l]
set_option maxRecDepth 100000 in
set_option maxHeartbeats 4000000 in
theorem impl_moved (v : Value) (f : List Tm) (t : Tm) (w : World) (h : Sl kTm w v f) : Calls Tryz.prog 69 #[v, .agg #[.int .i64 t.f0, .int .i64 t.f1]] w (RetV w (.agg #[.int .i64 (moved f t).f0, .int .i64 (moved f t).f1])) := by
 obtain ⟨A, c_, rfl, HC, hr⟩ := h
 have hm := Kd.C_max hr
 have HR := Aside0.mk hr
 clear hr
 have HT := Aside0.mk (blk_alloc (blk_new w (.cells #[.int .i64 t.f0, .int .i64 t.f1] 38)) (.cells #[.int .i64 0, .int .i64 0] 38))
 have HC := Aside0.mk (blk_two w (.cells #[.int .i64 t.f0, .int .i64 t.f1] 38) (.cells #[.int .i64 0, .int .i64 0] 38))
 have HB := Aside0.mk (below_alloc (below_alloc (Below.refl w.heap.size w) (.cells #[.int .i64 t.f0, .int .i64 t.f1] 38)) (.cells #[.int .i64 0, .int .i64 0] 38))
 have hw1 : ((w.alloc (.cells #[.int .i64 t.f0, .int .i64 t.f1] 38)).alloc (.cells #[.int .i64 0, .int .i64 0] 38)).heap.size = w.heap.size + 2 := by simp
 have HW1 := Aside0.mk hw1
 clear hw1
 go_enter Tryz.func69, Tryz.ntmps69
 by_cases hn : f.length = 0
 ·obtain rfl : f = [] := List.eq_nil_of_length_eq_zero hn
  have HB := Aside0.mk (Below.refl w.heap.size w)
  go_wp2
  all_goals (refine bodyPost_ret (by simp [results, Tryz.results69, go_sem, *]; rfl) rfl (RetV.mk ?_ (by repeat (first | exact HB.out | apply below_alloc | refine below_set ?_ (by omega)))); rfl)
 ·have hn2 : ((f.length : Int) == 0) = false := beq_eq_false_iff_ne.2 (by omega)
  go_upto_region 3 with fail
  generalize ((w.alloc (.cells #[.int .i64 t.f0, .int .i64 t.f1] 38)).alloc (.cells #[.int .i64 0, .int .i64 0] 38)) = W0 at *
  obtain ⟨ad, s0, e, HX, h0, h1⟩ := rdTm0 HR.out HB.out (show 0 < f.length by omega)
  cases e
  have hp : 0 < f.length := by omega
  have hp2 : (0 : Int) < (f.length : Int) := by omega
  have k0 : W0.cell? ⟨w.heap.size, 0, none⟩ = some (.int .i64 t.f0) := blk_cell HT.out 0
  have k1 : W0.cell? ⟨w.heap.size, 1, none⟩ = some (.int .i64 t.f1) := blk_cell HT.out 1
  have TJ : ∀ (s t : Tm) W, Calls Tryz.prog 85 #[.agg #[.int .i64 s.f0, .int .i64 s.f1], .agg #[.int .i64 t.f0, .int .i64 t.f1]] W (RetV W (.agg #[.int .i64 (tJoin s t).f0, .int .i64 (tJoin s t).f1])) := fun s t W => impl_TimeJoin s.f0 s.f1 t.f0 t.f1 W
  have TM : ∀ (s t : Tm) W, Calls Tryz.prog 86 #[.agg #[.int .i64 s.f0, .int .i64 s.f1], .agg #[.int .i64 t.f0, .int .i64 t.f1]] W (RetV W (.agg #[.int .i64 (tMeet s t).f0, .int .i64 (tMeet s t).f1])) := fun s t W => impl_TimeMeet s.f0 s.f1 t.f0 t.f1 W
  have HFL := Aside0.mk (show moved f t = moveGo t (tJoin s0 t) f by
   cases f with
   | nil => simp at hp
   | cons a r => have := HX.out; simp at this; rw [← this]; rfl)
  have d0 : W0.drew.cell? ad = some (.int .i64 s0.f0) := h0
  have d1 : W0.drew.cell? ⟨ad.block, ad.off + 1, none⟩ = some (.int .i64 s0.f1) := h1
  have d2 : W0.drew.cell? ⟨w.heap.size, 0, none⟩ = some (.int .i64 t.f0) := k0
  have d3 : W0.drew.cell? ⟨w.heap.size, 1, none⟩ = some (.int .i64 t.f1) := k1
  have hlt : w.heap.size < W0.heap.size := by have := HW1.out; omega
  have hlt2 : ad.block < W0.heap.size := by have h9 : ad.block < w.heap.size := (by have := tmLt HR.out hp; exact this); omega
  go_cut [5] (fun p wc => ∃ X : Nat, p = .pointer (some ⟨X, 0, none⟩) ∧ w.heap.size + 2 ≤ X ∧ Aside0 (wc.heap[X]? = some (.cells #[.int .i64 (tJoin s0 t).f0, .int .i64 (tJoin s0 t).f1] 38 (0, 0))) ∧ Aside0 (wc.heap[w.heap.size]? = some (.cells #[.int .i64 t.f0, .int .i64 t.f1] 38 (0, 0))) ∧ Aside0 (wc.heap[w.heap.size + 1]? = some (.cells #[.int .i64 0, .int .i64 0] 38 (0, 0))) ∧ Aside0 (Below w.heap.size w wc))
  case first =>
   go_region_law (first
    | (go_simp; go_at_call 85; ((with_reducible refine (TJ s0 t W0.drew).mono ?_); rintro e w5 ⟨rfl, hb⟩; have HB5 := Aside0.mk (bthen (below_drew HB.out) hb); have HT5 := Aside0.mk (blk_below (w := W0.drew) HT.out hb); have HC5 := Aside0.mk (blk_below (w := W0.drew) HC.out hb); have hs5 : w.heap.size + 2 ≤ w5.heap.size := (by have h7 := hb.size; have h8 := HW1.out; have h9 : W0.drew.heap.size = W0.heap.size := rfl; omega); clear hb))
    | (go_simp; go_at_call 85; ((with_reducible refine (TJ s0 t (W0.alloc (.cells #[.int .i64 0, .int .i64 0] 38)).drew).mono ?_); rintro e w5 ⟨rfl, hb⟩; have HN5 := Aside0.mk (blk_below (w := (W0.alloc (.cells #[.int .i64 0, .int .i64 0] 38)).drew) (blk_new W0 (.cells #[.int .i64 0, .int .i64 0] 38)) hb); have e0 := blk_cell HN5.out 0; have e1 := blk_cell HN5.out 1; have ef0 := blk_fz HN5.out 0; have ef1 := blk_fz HN5.out 1; have HB5 := Aside0.mk (bthen (below_drew (below_alloc HB.out (.cells #[.int .i64 0, .int .i64 0] 38))) hb); have HT5 := Aside0.mk (blk_below (w := (W0.alloc (.cells #[.int .i64 0, .int .i64 0] 38)).drew) (blk_alloc HT.out (.cells #[.int .i64 0, .int .i64 0] 38)) hb); have HC5 := Aside0.mk (blk_below (w := (W0.alloc (.cells #[.int .i64 0, .int .i64 0] 38)).drew) (blk_alloc HC.out (.cells #[.int .i64 0, .int .i64 0] 38)) hb); clear hb)))
   all_goals go_wp2
   all_goals go_meet
   all_goals first
    | exact ⟨w5.heap.size, rfl, by omega, ⟨blk_new w5 _⟩, ⟨blk_alloc HT5.out _⟩, ⟨blk_alloc HC5.out _⟩, ⟨below_alloc HB5.out _⟩⟩
    | exact ⟨W0.heap.size, rfl, by have := HW1.out; omega, ⟨blk2 HN5.out _ _⟩, ⟨blk_far (blk_far HT5.out (by show w.heap.size ≠ W0.heap.size; have := HW1.out; omega) _) (by show w.heap.size ≠ W0.heap.size; have := HW1.out; omega) _⟩, ⟨blk_far (blk_far HC5.out (by show w.heap.size + 1 ≠ W0.heap.size; have := HW1.out; omega) _) (by show w.heap.size + 1 ≠ W0.heap.size; have := HW1.out; omega) _⟩, ⟨below_set (below_set HB5.out (by show w.heap.size ≤ W0.heap.size; have := HW1.out; omega)) (by show w.heap.size ≤ W0.heap.size; have := HW1.out; omega)⟩⟩
  case rest =>
   clear HT HC HB HW1 d0 d1 d2 d3 k0 k1 h0 h1 hlt hlt2
   obtain ⟨X, rfl, hX, HO, HT, HC, HB⟩ := hcut
   go_at_K
   go_wp2
   go_loopw [19] (fun i wr => ∃ k : Nat, k ≤ f.length ∧ i = .int .i64 k ∧ Aside0 (wr.heap[X]? = some (.cells #[.int .i64 (moveGo t (tJoin s0 t) (f.take k)).f0, .int .i64 (moveGo t (tJoin s0 t) (f.take k)).f1] 38 (0, 0))) ∧ Aside0 (wr.heap[w.heap.size]? = some (.cells #[.int .i64 t.f0, .int .i64 t.f1] 38 (0, 0))) ∧ Aside0 (wr.heap[w.heap.size + 1]? = some (.cells #[.int .i64 0, .int .i64 0] 38 (0, 0))) ∧ Aside0 (Below w.heap.size w wr)) (fun i _ => f.length - (intOf i).toNat)
   case atStart => exact ⟨0, Nat.zero_le _, rfl, HO, HT, HC, HB⟩
   case round =>
    clear HO HT HC HB
    obtain ⟨k, hk, rfl, HO, HT, HC, HB⟩ := hrel
    by_cases hlt : k < f.length
    ·obtain ⟨ad2, s, e, HS, i0, i1⟩ := rdTm HR.out HB.out hlt
     cases e
     have HSN := Aside0.mk (show moveGo t (tJoin s0 t) (f.take (k + 1)) = tMeet (moveGo t (tJoin s0 t) (f.take k)) (tJoin s t) by rw [take_snoc HS.out, moveGo_snoc])
     generalize moveGo t (tJoin s0 t) (f.take k) = o at *
     go_upto_region 7 with fail
     refine name_world fun W2 hW => ?_
     have BY : W2.heap[wr.heap.size]? = some (.cells #[.int .i64 s.f0, .int .i64 s.f1] 38 (0, 0)) := by rw [hW]; exact blk_new wr _
     have hb1 : Below wr.heap.size wr W2 := by rw [hW]; repeat (first | exact Below.refl _ _ | apply below_alloc | refine below_set ?_ (by simp))
     clear hW
     generalize hY : wr.heap.size = Y at BY ⊢
     replace HO := Aside0.mk (blk_below HO.out hb1)
     replace HT := Aside0.mk (blk_below HT.out hb1)
     replace HC := Aside0.mk (blk_below HC.out hb1)
     replace HB := Aside0.mk (bthen HB.out hb1)
     have o0 : W2.drew.cell? ⟨X, 0, none⟩ = some (.int .i64 o.f0) := blk_cell HO.out 0
     have o1 : W2.drew.cell? ⟨X, 1, none⟩ = some (.int .i64 o.f1) := blk_cell HO.out 1
     have y0 : W2.drew.cell? ⟨Y, 0, none⟩ = some (.int .i64 s.f0) := blk_cell BY 0
     have y1 : W2.drew.cell? ⟨Y, 1, none⟩ = some (.int .i64 s.f1) := blk_cell BY 1
     have k0 : W2.drew.cell? ⟨w.heap.size, 0, none⟩ = some (.int .i64 t.f0) := blk_cell HT.out 0
     have k1 : W2.drew.cell? ⟨w.heap.size, 1, none⟩ = some (.int .i64 t.f1) := blk_cell HT.out 1
     clear i0 i1 hb1 hY BY
     go_region_law (first
      | (go_simp; go_at_call 85; ((with_reducible refine (TJ s t W2.drew).mono ?_); rintro e w5 ⟨rfl, hb⟩; have HO5 := Aside0.mk (blk_below (w := W2.drew) HO.out hb); have HT5 := Aside0.mk (blk_below (w := W2.drew) HT.out hb); have HC5 := Aside0.mk (blk_below (w := W2.drew) HC.out hb); have HB5 := Aside0.mk (bthen (below_drew HB.out) hb); have x0 := blk_cell HO5.out 0; have x1 := blk_cell HO5.out 1; clear hb))
      | (go_simp; go_at_call 86; ((with_reducible refine (TM o (tJoin s t) w5).mono ?_); rintro e w6 ⟨rfl, hb⟩; have HO6 := Aside0.mk (blk_below HO5.out hb); have HT6 := Aside0.mk (blk_below HT5.out hb); have HC6 := Aside0.mk (blk_below HC5.out hb); have HB6 := Aside0.mk (bthen HB5.out hb); have z0 := blk_cell HO6.out 0; have z1 := blk_cell HO6.out 1; have zf0 := blk_fz HO6.out 0; have zf1 := blk_fz HO6.out 1; clear hb)))
     all_goals go_wp2
     all_goals go_roundw
     all_goals first
      | exact ⟨k + 1, by omega, by go_num, ⟨by rw [HSN.out]; exact blk2 HO6.out _ _⟩, ⟨blk_far (blk_far HT6.out (by show w.heap.size ≠ X; omega) _) (by show w.heap.size ≠ X; omega) _⟩, ⟨blk_far (blk_far HC6.out (by show w.heap.size + 1 ≠ X; omega) _) (by show w.heap.size + 1 ≠ X; omega) _⟩, ⟨below_set (below_set HB6.out (by show w.heap.size ≤ X; omega)) (by show w.heap.size ≤ X; omega)⟩⟩
      | (simp [intOf]; omega)
    ·obtain rfl : k = f.length := by omega
     rw [List.take_length] at HO
     rw [← HFL.out] at HO
     have x0 := blk_cell HO.out 0
     have x1 := blk_cell HO.out 1
     have z0 := blk_cell HC.out 0
     have z1 := blk_cell HC.out 1
     have zf0 := blk_fz HC.out 0
     have zf1 := blk_fz HC.out 1
     go_wp2
     refine ret_cell (p := 4) (g := w.heap.size + 1) rfl rfl rfl (blk2 HC.out _ _) Tryz.underlying38 rfl (by kernel_rfl) ?_
     exact RetV.mk rfl (below_set (below_set HB.out (by show w.heap.size ≤ w.heap.size + 1; omega)) (by show w.heap.size ≤ w.heap.size + 1; omega))
end Go.Proofs.YtkdendlgaaimbaaGreat.X
namespace Go.Proofs.YtkdendlgaaimbaaGreat.X
open Go.RowKit Go.Proofs.YtkdendlgaaimbaaGreatW.PrintWords
set_option linter.unusedVariables false
set_option linter.unusedSimpArgs false
section
variable {P : Program} {ops : Array Oper} {rest : List Oper} {o : Oper} {a : Act} {Q : Exit → Act → World → Prop}
theorem storeRT {w0 W : World} {base : Nat} (hN : o.dst = none) (hgd : o.guard = none) {ty : TypeId} {p x : Operand} (ho : o.op = .store ty p x) {e g n cap o' : Nat} (k : Nat) {xs : List Rw} (x0 : Rw) (t : Tm) {ok : Nat → Prop}
  (haddr : a.eval p = .pointer (some ⟨g, o', none⟩)) (hoff : o' = k * 5 + 2) (hu : (a.eval x).cells.toList = [.int .i64 t.f0, .int .i64 t.f1]) (ht : (P.info? ty).map (·.size) = some 2)
  (HO : kRw.R e W base ok (.slice (some ⟨g, 0, none⟩) n cap) xs) (hx0 : xs[k]? = some x0) (hi : k < n) (HB : Below base w0 W)
  (h : ∀ w1, kRw.R e w1 base ok (.slice (some ⟨g, 0, none⟩) n cap) (xs.set k { x0 with f2 := t }) → Below base w0 w1 → W.grownBy w1 (some g) → wpList P ops Q rest a w1) : wpList P ops Q (o :: rest) a W := by
 have hl : k < xs.length := (List.getElem?_eq_some_iff.1 hx0).1
 obtain ⟨c, hcl, hM, hcc, _⟩ := Kd.R_elem HO x0 (k : Int) (by omega) (by omega)
 simp only [Int.toNat_natCast] at hcc hM
 have e0 : xs.getD k x0 = x0 := by simp [List.getD, hx0]
 rw [e0] at hM
 have ec := kRw_M.1 hM
 subst ec
 refine Kd.R_store kRw base hN hgd ty p x ho e (k : Int) 2 _ { x0 with f2 := t } _ [.int .i64 t.f0, .int .i64 t.f1] (vRw x0) ok (fun _ => False) haddr (by rw [Int.toNat_natCast]; exact hoff) rfl hu ht (fun q hq => by simp at hq; rcases hq with rfl | rfl <;> rfl) HO (by omega) (by omega) hcl (by simpa using hcc) (by show 2 + 2 ≤ 5; omega) ?_ (fun _ hq => hq.elim) HB (by simpa using h)
 exact kRw_M.2 rfl
end
set_option maxRecDepth 100000 in
set_option maxHeartbeats 2000000 in
theorem impl_advanced (v v2 : Value) (l : List Rw) (f : List Tm) (w : World) (h : Sl kRw w v l) (hf : Sl kTm w v2 f) (hl1 : l.length ≤ 1000000) : Calls Tryz.prog 47 #[v, v2] w (RetR kRw 60 w (l.map (mv f))) := by
 have HS := Aside0.mk h
 have HF := Aside0.mk hf
 obtain ⟨A, c_, rfl, HC, hr⟩ := h
 have hm := Kd.C_max hr
 have HR := Aside0.mk hr
 clear hr
 have HN := Aside0.mk (R_none (d := kRw) (e := 60) (base := w.heap.size) (ok := okT) (blk_new w (.cells #[] 60)) (Nat.le_refl _) trivial)
 have MV : ∀ (t : Tm) W, Sl kTm W v2 f → Calls Tryz.prog 69 #[v2, .agg #[.int .i64 t.f0, .int .i64 t.f1]] W (RetV W (.agg #[.int .i64 (moved f t).f0, .int .i64 (moved f t).f1])) := fun t W hW => impl_moved v2 f t W hW
 have HB := Aside0.mk (Below.refl w.heap.size w)
 go_enter Tryz.func47, Tryz.ntmps47
 replace HB := Aside0.mk (below_alloc HB.out (.cells #[] 60))
 go_upto_region 2 with (at_builtin; refine appsRw (w0 := w) (base := w.heap.size) (xs := []) (ys := l) (ok := okT) rfl rfl (HS.out.below HB.out) HN.out (fun _ _ => trivial) HB.out HB.out.size (by first | omega | (simp; omega)) ?_; intro v1 w' hr1 hb1 hg1 ha1; have HO := Aside0.mk hr1; replace HB := Aside0.mk hb1; clear hr1 hb1 hg1 ha1)
 rw [List.nil_append] at HO
 obtain ⟨A3, c3, rfl, hc3, hC3⟩ := Sl.of_R HO.out
 clear hC3
 go_wp2
 go_loopw [12] (fun i wr => ∃ (k : Nat), k ≤ l.length ∧ i = .int .i64 k ∧ Aside0 (kRw.R 60 wr w.heap.size okT (.slice A3 l.length c3) ((l.take k).map (mv f) ++ l.drop k)) ∧ Aside0 (Below w.heap.size w wr)) (fun i _ => l.length - (intOf i).toNat)
 case atStart => exact ⟨0, Nat.zero_le _, rfl, by simpa using HO, HB⟩
 case round =>
  clear HB HO HN
  obtain ⟨k, hk, rfl, HO, HB⟩ := hrel
  by_cases hlt : k < l.length
  ·obtain ⟨g, cap, e, hg1, hg2⟩ := formR HO.out (n := l.length) (len_take (mv f) hk) (by omega)
   cases e
   obtain ⟨x, hx⟩ : ∃ x, l[k]? = some x := ⟨_, List.getElem?_eq_getElem hlt⟩
   have hgx := get_take (mv f) hx
   have HX := Aside0.mk hx
   obtain ⟨ad, x', e, HX', h0, h1, h2, h3, h4⟩ := rdRw (Kd.R_reads' HO.out).2.2 (Below.refl _ _) (k := k) (by rw [len_take (mv f) hk]; exact hlt)
   cases e
   have ex : x' = x := Option.some.inj (HX'.out.symm.trans hgx)
   subst ex
   have h2' : wr.cell? ⟨g, k * 5 + 2, none⟩ = some (.int .i64 x'.f2.f0) := by rw [add_plain] at h2; exact h2
   have h3' : wr.cell? ⟨g, k * 5 + 3, none⟩ = some (.int .i64 x'.f2.f1) := by rw [add_plain] at h3; exact h3
   clear h0 h1 h2 h3 h4 hx
   go_wp2_with (first
    | (go_at_call 69; ((with_reducible refine (MV x'.f2 wr (HF.out.below HB.out)).mono ?_); rintro e w5 ⟨rfl, hb⟩; have HO5 := Aside0.mk (Kd.R_below HO.out hb); replace HB := Aside0.mk (bthen HB.out hb); clear hb))
    | (refine storeRT (base := w.heap.size) rfl rfl rfl k x' (moved f x'.f2) (by first | rfl | simp) (by first | rfl | omega) (by first | rfl | (simp [*]; done)) (by kernel_rfl) HO5.out hgx hlt HB.out ?_; intro w1 hr1 hb1 hg1; have HO2 := Aside0.mk hr1; replace HB := Aside0.mk hb1; clear hr1 hb1 hg1))
   go_roundw
   case rel => exact ⟨k + 1, by omega, by go_num, ⟨by rw [← set_take (mv f) HX.out]; exact HO2.out⟩, HB⟩
   case measure => simp [intOf]; omega
  ·obtain rfl : k = l.length := by omega
   rw [List.take_length, List.drop_length, List.append_nil] at HO
   go_wp2
   go_ret
   exact RetR.mk HO.out HB.out
set_option maxRecDepth 100000 in
set_option maxHeartbeats 2000000 in
theorem impl_BatchMove (v v2 : Value) (l : List Rw) (f : List Tm) (w : World) (h : Sl kRw w v l) (hf : Sl kTm w v2 f) : Calls Tryz.prog 21 #[v, v2] w (RetR kRw 60 w (batchMove l f)) := by
 have HS := Aside0.mk h
 have HF0 := Aside0.mk hf
 cases hs : rowsOk l
 ·have HB := Aside0.mk (Below.refl w.heap.size w)
  go_enter Tryz.func21, Tryz.ntmps21
  go_wp2_with (go_at_call 43; ((with_reducible refine (impl_RowsOk _ l _ (HS.out.below HB.out)).mono ?_); rintro e w' ⟨rfl, hb⟩; replace HB := Aside0.mk (bthen HB.out hb); clear hb))
  go_ret
  exact RetR.mk (by rw [batchMove, hs]; exact Kd.R_nil _ _ _ _ _) HB.out
 ·cases hfo : frontOk f
  ·have HB := Aside0.mk (Below.refl w.heap.size w)
   go_enter Tryz.func21, Tryz.ntmps21
   go_wp2_with (first | (go_at_call 43; ((with_reducible refine (impl_RowsOk _ l _ (HS.out.below HB.out)).mono ?_); rintro e w' ⟨rfl, hb⟩; replace HB := Aside0.mk (bthen HB.out hb); clear hb)) | (go_at_call 44; ((with_reducible refine (impl_FrontOk _ f _ (HF0.out.below HB.out)).mono ?_); rintro e w' ⟨rfl, hb⟩; replace HB := Aside0.mk (bthen HB.out hb); clear hb)))
   go_ret
   exact RetR.mk (by rw [batchMove, hs, hfo]; exact Kd.R_nil _ _ _ _ _) HB.out
  ·obtain ⟨a1, a2⟩ := rowsOk_all hs
   have hfit := Aside0.mk (rowsOk_fit (l := l.map (mv f)) (fun y hy => by obtain ⟨r, hr, rfl⟩ := List.mem_map.1 hy; exact mv_ok (frontOk_all hfo) (a2 r hr)))
   clear a2
   have HB := Aside0.mk (Below.refl w.heap.size w)
   go_enter Tryz.func21, Tryz.ntmps21
   go_wp2_with (first
    | (go_at_call 43; ((with_reducible refine (impl_RowsOk _ l _ (HS.out.below HB.out)).mono ?_); rintro e w' ⟨rfl, hb⟩; replace HB := Aside0.mk (bthen HB.out hb); clear hb)) | (go_at_call 44; ((with_reducible refine (impl_FrontOk _ f _ (HF0.out.below HB.out)).mono ?_); rintro e w' ⟨rfl, hb⟩; replace HB := Aside0.mk (bthen HB.out hb); clear hb))
    | (go_at_call 47; ((with_reducible refine (impl_advanced _ _ l f _ (HS.out.below HB.out) (HF0.out.below HB.out) (by omega)).mono ?_); rintro e w' ⟨u, rfl, hr, hb⟩; have HF := Aside0.mk (Kd.R_lower hr HB.out.size); replace HB := Aside0.mk (bthen HB.out hb); clear hr hb))
    | (go_at_call 46; ((with_reducible refine (impl_batch _ (l.map (mv f)) _ (Sl.of_R HF.out) hfit.out (by rw [List.length_map]; omega)).mono ?_); rintro e w' ⟨u2, rfl, hr, hb⟩; have HF2 := Aside0.mk (Kd.R_lower hr HB.out.size); replace HB := Aside0.mk (bthen HB.out hb); clear hr hb)))
   go_ret
   exact RetR.mk (by rw [batchMove, hs, hfo]; exact HF2.out) HB.out
end Go.Proofs.YtkdendlgaaimbaaGreat.X
