/- Conditions: none. -/
import Derived.Test.YtkdendlgaaimbaaYCBs
import Derived.Test.YtkdendlgaaimbaaYQBs
import Derived.Test.YtkdendlgaaimbaaYCPl
import Derived.Test.YtkdendlgaaimbaaYQPl
import Derived.Deep.RegionHeld3
import Derived.BigQuiet
import Derived.BigRegion
import Derived.Laws.BitsLemmas
namespace Go.Proofs.Ytkdendlgaaimbaa.X
open Go.RowKit Go.Proofs.YtkdendlgaaimbaaW.PrintWords
set_option linter.unusedVariables false
set_option linter.unusedSimpArgs false
theorem R_none {α : Type} {d : Kd α} {e : Nat} {w : World} {base g : Nat} {ok : Nat → Prop} (hb : w.heap[g]? = some (.cells #[] e (0, 0))) (hbase : base ≤ g) (hok : ok g) : d.R e w base ok (.slice (some ⟨g, 0, none⟩) 0 0) [] := by
 refine ⟨fun k hk => ?_, [], ⟨by simp, .inr ⟨g, 0, #[], rfl, hbase, hb, Nat.le_refl _, by unfold maxLen; omega, by simp, by simp⟩⟩, by simp, fun j x hj => by simp at hj⟩
 have : g = k := by simpa [Value.ownBlock] using hk
 rw [← this]; exact hok
theorem rdRwAt {w wr : World} {ad : Addr} {k : Nat} {xs : List Rw} {x : Rw} (h : kRw.C w (some ad) xs.length xs) (hb : Below w.heap.size w wr) (hx : xs[k]? = some x) : wr.cell? (ad.add (k * 5)) = some (.int .i64 x.f0) ∧ wr.cell? ⟨(ad.add (k * 5)).block, (ad.add (k * 5)).off + 1, none⟩ = some (.int .i64 x.f1) ∧ wr.cell? ⟨(ad.add (k * 5)).block, (ad.add (k * 5)).off + 2, none⟩ = some (.int .i64 x.f2.f0) ∧ wr.cell? ⟨(ad.add (k * 5)).block, (ad.add (k * 5)).off + 3, none⟩ = some (.int .i64 x.f2.f1) ∧ wr.cell? ⟨(ad.add (k * 5)).block, (ad.add (k * 5)).off + 4, none⟩ = some (.int .i64 x.f3) := by
 obtain ⟨ad', y, e, HY, h0, h1, h2, h3, h4⟩ := rdRw h hb (List.getElem?_eq_some_iff.1 hx).1
 cases e
 rw [hx] at HY
 cases HY.out
 exact ⟨h0, h1, h2, h3, h4⟩
set_option maxRecDepth 100000 in
set_option maxHeartbeats 2000000 in
theorem spec_l2Put (v : Value) (l : List Rw) (r : Rw) (w : World) (h : Sl kRw w v l) (hl : l.length < 1000000000000) : Calls Try.prog 142 #[v, .agg #[.int .i64 r.f0, .int .i64 r.f1, .int .i64 r.f2.f0, .int .i64 r.f2.f1, .int .i64 r.f3]] w (RetR kRw 102 w (put r l)) := by
 obtain ⟨A, c_, rfl, HC, hr⟩ := h
 have hm := Kd.C_max hr
 have HR := Aside0.mk hr
 clear hr
 have HB := Aside0.mk (Below.refl w.heap.size w)
 go_enter Try.func142, Try.ntmps142
 go_wp2
 go_loopw [5, 6, 7] (fun o dn i wr => ∃ (k : Nat) (acc : List Rw) (d : Bool) (r3 : Int), k ≤ l.length ∧ dn = .bool d ∧ i = .int .i64 k ∧ acc.length ≤ k + 1 ∧ (d = false → r3 = r.f3 ∧ acc.length ≤ k) ∧ Aside0 (kRw.R 102 wr w.heap.size (fun q => q ≠ w.heap.size) o acc) ∧ Aside0 (wr.heap[w.heap.size]? = some (.cells #[.int .i64 r.f0, .int .i64 r.f1, .int .i64 r.f2.f0, .int .i64 r.f2.f1, .int .i64 r3] 102 (0, 0))) ∧ Aside0 (acc ++ (if d then l.drop k else put r (l.drop k)) = put r l) ∧ Aside0 (Below w.heap.size w wr)) (fun _ _ i _ => l.length - (intOf i).toNat)
 case atStart => exact ⟨0, [], false, r.f3, Nat.zero_le _, rfl, rfl, by simp, fun _ => ⟨rfl, by simp⟩, ⟨R_none (blk_two w _ _) (by omega) (by omega)⟩, ⟨blk_alloc (blk_new w _) _⟩, ⟨by simp⟩, ⟨below_alloc (below_alloc HB.out _) _⟩⟩
 case round =>
  obtain ⟨k, acc, d, r3, hk, rfl, rfl, hal, hd, HO, HG, HA, HB⟩ := hrel
  have hne : ∀ q, u5.ownBlock = some q → q ≠ w.heap.size := HO.out.1
  replace hne := Aside0.mk hne
  by_cases hlt : k < l.length
  ·obtain ⟨ad, x, e, HX, h0, h1, h2, h3, h4⟩ := rdRw HR.out HB.out hlt
   cases e
   have g0 : wr.cell? ⟨w.heap.size, 0, none⟩ = some (.int .i64 r.f0) := blk_cell HG.out 0
   have g1 : wr.cell? ⟨w.heap.size, 1, none⟩ = some (.int .i64 r.f1) := blk_cell HG.out 1
   have g2 : wr.cell? ⟨w.heap.size, 2, none⟩ = some (.int .i64 r.f2.f0) := blk_cell HG.out 2
   have g3 : wr.cell? ⟨w.heap.size, 3, none⟩ = some (.int .i64 r.f2.f1) := blk_cell HG.out 3
   have g4 : wr.cell? ⟨w.heap.size, 4, none⟩ = some (.int .i64 r3) := blk_cell HG.out 4
   have p0 := fun u => Ext.cell h0 u
   have p1 := fun u => Ext.cell h1 u
   have p2 := fun u => Ext.cell h2 u
   have p3 := fun u => Ext.cell h3 u
   have p4 := fun u => Ext.cell h4 u
   have q0 := fun u => Ext.cell g0 u
   have q1 := fun u => Ext.cell g1 u
   have q2 := fun u => Ext.cell g2 u
   have q3 := fun u => Ext.cell g3 u
   have q4 := fun u => Ext.cell g4 u
   have HD := Aside0.mk (drop_cons HX.out)
   go_wp2
   refine wp_region_ext (by kernel_rfl) (by kernel_rfl) ?_
   repeat (any_goals (first | go_big_quiet_step ((go_at_call 136; exact Calls.extV (spec_l2Comp x ⟨r.f0, r.f1, ⟨r.f2.f0, r.f2.f1⟩, r3⟩ _))) | quiet_step ((go_at_call 136; exact Calls.extV (spec_l2Comp x ⟨r.f0, r.f1, ⟨r.f2.f0, r.f2.f1⟩, r3⟩ _))) | (refine wpQuiet_step (fun K hK => ?_); go_simp; split <;> (refine hK _ ?_; clear hK K))))
   all_goals (refine wpQuiet_nil ?_; intro u)
   have HB2 := Aside0.mk (bthen HB.out u.bel)
   have HO2 := Aside0.mk (Kd.R_below HO.out u.bel)
   have HG2 := Aside0.mk (blk_below HG.out u.bel)
   have a0 := p0 u; have a1 := p1 u; have a2 := p2 u; have a3 := p3 u; have a4 := p4 u
   have b0 := q0 u; have b1 := q1 u; have b2 := q2 u; have b3 := q3 u; have b4 := q4 u
   clear p0 p1 p2 p3 p4 q0 q1 q2 q3 q4 h0 h1 h2 h3 h4 g0 g1 g2 g3 g4 HO HG HB
   generalize u.w' = W at *
   have hbl := blk_lt HG2.out
   cases d with
   | true =>
    go_wp2_with (at_builtin; refine appRw (w0 := w) (base := w.heap.size) (xs := acc) (ok := fun q => q ≠ w.heap.size) rfl rfl rfl HO2.out (fun q hq => by omega) HB2.out (by have := HB2.out.size; omega) (by omega) ?_; intro v1 w1 hr1 hb1 hg1 ha1; have HO3 := Aside0.mk hr1; have HB3 := Aside0.mk hb1; have HG3 := Aside0.mk ((hg1.block _ hbl (fun e => hne.out _ e.symm rfl)).trans HG2.out); clear hr1 hb1 hg1 ha1)
    go_roundw
    case rel => exact ⟨k + 1, acc ++ [x], true, r3, by omega, rfl, by go_num, by simp; omega, (fun h => by cases h), HO3, HG3, ⟨by have := HA.out; rw [HD.out] at this; simpa using this⟩, HB3⟩
    case measure => simp [intOf]; omega
   | false =>
    obtain ⟨rfl, hal2⟩ := hd rfl
    obtain ⟨C, hC⟩ : ∃ C, C = comp x ⟨r.f0, r.f1, ⟨r.f2.f0, r.f2.f1⟩, r.f3⟩ := ⟨_, rfl⟩
    rw [← hC]
    replace hC := Aside0.mk hC
    by_cases h1 : 0 < C
    ·have e1 : (C == 0) = false := beq_eq_false_iff_ne.2 (by omega)
     have e2 : decide (C > 0) = true := decide_eq_true h1
     go_wp2_with (first | (at_builtin; refine appRw (w0 := w) (base := w.heap.size) (xs := acc) (ok := fun q => q ≠ w.heap.size) rfl rfl rfl HO2.out (fun q hq => by omega) HB2.out (by have := HB2.out.size; omega) (by omega) ?_; intro v1 w1 hr1 hb1 hg1 ha1; have HO3 := Aside0.mk hr1; have HB3 := Aside0.mk hb1; have HG3 := Aside0.mk ((hg1.block _ hbl (fun e => hne.out _ e.symm rfl)).trans HG2.out); have hbl3 := blk_lt HG3.out; have hne3 : Aside0 (∀ q, v1.ownBlock = some q → q ≠ w.heap.size) := ⟨HO3.out.1⟩; obtain ⟨j0, j1, j2, j3, j4⟩ := rdRwAt HR.out HB3.out HX.out; clear hr1 hb1 hg1 ha1) | (at_builtin; refine appRw (w0 := w) (base := w.heap.size) (xs := acc ++ [r]) (ok := fun q => q ≠ w.heap.size) rfl rfl rfl HO3.out (fun q hq => by omega) HB3.out (by have := HB3.out.size; omega) (by rw [List.length_append, List.length_singleton]; omega) ?_; intro v2 w2 hr1 hb1 hg1 ha1; have HO4 := Aside0.mk hr1; have HB4 := Aside0.mk hb1; have HG4 := Aside0.mk ((hg1.block _ hbl3 (fun e => hne3.out _ e.symm rfl)).trans HG3.out); clear hr1 hb1 hg1 ha1))
     go_roundw
     case rel => exact ⟨k + 1, acc ++ [r] ++ [x], true, r.f3, by omega, rfl, by go_num, by simp; omega, (fun h => by cases h), HO4, HG4, ⟨by have := HA.out; simp only [Bool.false_eq_true, if_false] at this; rw [HD.out, put, if_pos (by have := hC.out; show 0 < comp x ⟨r.f0, r.f1, ⟨r.f2.f0, r.f2.f1⟩, r.f3⟩; omega)] at this; simpa using this⟩, HB4⟩
     case measure => simp [intOf]; omega
    ·have e2 : decide (C > 0) = false := decide_eq_false h1
     by_cases h2 : C = 0
     ·have e1 : (C == 0) = true := by rw [h2]; rfl
      subst h2
      have hf : W.drew.frozen? ⟨w.heap.size, 4, none⟩ = false := by show W.frozen? _ = false; simp [World.frozen?, HG2.out]
      have c0 : W.drew.cell? ⟨w.heap.size, 0, none⟩ = some (.int .i64 r.f0) := b0
      have c1 : W.drew.cell? ⟨w.heap.size, 1, none⟩ = some (.int .i64 r.f1) := b1
      have c2 : W.drew.cell? ⟨w.heap.size, 2, none⟩ = some (.int .i64 r.f2.f0) := b2
      have c3 : W.drew.cell? ⟨w.heap.size, 3, none⟩ = some (.int .i64 r.f2.f1) := b3
      have c4 : W.drew.cell? ⟨w.heap.size, 4, none⟩ = some (.int .i64 r.f3) := b4
      have HO5 := Aside0.mk (Kd.R_below HO2.out (below_drew (Below.refl _ _)))
      have HB5 := Aside0.mk (below_drew HB2.out)
      have HG5 := Aside0.mk (blk_drew HG2.out)
      have hbl5 : w.heap.size < W.drew.heap.size := hbl
      go_wp2
      go_still_tail 9, (by kernel_rfl)
      change wpList _ _ _ _ _ W.drew
      generalize W.drew = W2 at *
      have HZ : Aside0 (W2.heap.size = (W2.setCell ⟨w.heap.size, 4, none⟩ (.int .i64 (wrap64 (r.f3 + x.f3)))).heap.size) := ⟨by simp⟩
      go_wp2_with (at_builtin; refine appRw (w0 := w) (base := w.heap.size) (xs := acc) (ok := fun q => q ≠ w.heap.size) rfl rfl ?hx ?ho ?hfr ?hbb ?hba (by omega) ?_; (case hx => exact congrArg (fun n => Value.slice (some ⟨n, 0, none⟩) 1 1) HZ.out); (case ho => exact Kd.R_far (p := ⟨w.heap.size, 4, none⟩) HO5.out (fun q hq => hq) _); (case hfr => intro q hq; rw [← HZ.out] at hq; omega); (case hbb => exact below_set HB5.out (Nat.le_refl _)); (case hba => rw [← HZ.out]; omega); intro v1 w1 hr1 hb1 hg1 ha1; have HO3 := Aside0.mk hr1; have HB3 := Aside0.mk hb1; have HG3 := Aside0.mk ((hg1.block _ (by rw [← HZ.out]; omega) (fun e => hne.out _ e.symm rfl)).trans (blk_set HG5.out 4 _)); clear hr1 hb1 hg1 ha1)
      go_roundw
      case rel => exact ⟨k + 1, _, true, _, by omega, rfl, by go_num, by rw [List.length_append, List.length_singleton]; omega, (fun h => by cases h), HO3, HG3, ⟨by have := HA.out; simp only [Bool.false_eq_true, if_false] at this; rw [HD.out, put, if_neg (by have := hC.out; show ¬ 0 < comp x ⟨r.f0, r.f1, ⟨r.f2.f0, r.f2.f1⟩, r.f3⟩; omega), if_pos (by have := hC.out; show comp x ⟨r.f0, r.f1, ⟨r.f2.f0, r.f2.f1⟩, r.f3⟩ = 0; omega)] at this; simpa using this⟩, HB3⟩
      case measure => simp [intOf]; omega
     ·have e1 : (C == 0) = false := beq_eq_false_iff_ne.2 h2
      go_wp2_with (at_builtin; refine appRw (w0 := w) (base := w.heap.size) (xs := acc) (ok := fun q => q ≠ w.heap.size) rfl rfl rfl HO2.out (fun q hq => by omega) HB2.out (by have := HB2.out.size; omega) (by omega) ?_; intro v1 w1 hr1 hb1 hg1 ha1; have HO3 := Aside0.mk hr1; have HB3 := Aside0.mk hb1; have HG3 := Aside0.mk ((hg1.block _ hbl (fun e => hne.out _ e.symm rfl)).trans HG2.out); clear hr1 hb1 hg1 ha1)
      go_roundw
      case rel => exact ⟨k + 1, acc ++ [x], false, r.f3, by omega, rfl, by go_num, by simp; omega, (fun _ => ⟨rfl, by simp; omega⟩), HO3, HG3, ⟨by have := HA.out; simp only [Bool.false_eq_true, if_false] at this; rw [HD.out, put, if_neg (by have := hC.out; show ¬ 0 < comp x ⟨r.f0, r.f1, ⟨r.f2.f0, r.f2.f1⟩, r.f3⟩; omega), if_neg (by have := hC.out; show ¬ comp x ⟨r.f0, r.f1, ⟨r.f2.f0, r.f2.f1⟩, r.f3⟩ = 0; omega)] at this; simpa using this⟩, HB3⟩
      case measure => simp [intOf]; omega
  ·obtain rfl : k = l.length := by omega
   have g0 : wr.cell? ⟨w.heap.size, 0, none⟩ = some (.int .i64 r.f0) := blk_cell HG.out 0
   have g1 : wr.cell? ⟨w.heap.size, 1, none⟩ = some (.int .i64 r.f1) := blk_cell HG.out 1
   have g2 : wr.cell? ⟨w.heap.size, 2, none⟩ = some (.int .i64 r.f2.f0) := blk_cell HG.out 2
   have g3 : wr.cell? ⟨w.heap.size, 3, none⟩ = some (.int .i64 r.f2.f1) := blk_cell HG.out 3
   have g4 : wr.cell? ⟨w.heap.size, 4, none⟩ = some (.int .i64 r3) := blk_cell HG.out 4
   cases d with
   | true =>
    go_wp2
    go_ret
    exact RetR.mk (by have := HA.out; simp at this; rw [← this]; exact Kd.R_mono HO.out (fun _ _ => trivial)) HB.out
   | false =>
    obtain ⟨rfl, hal2⟩ := hd rfl
    have hbl := blk_lt HG.out
    go_wp2_with (at_builtin; refine appRw (w0 := w) (base := w.heap.size) (xs := acc) (ok := fun q => q ≠ w.heap.size) rfl rfl rfl HO.out (fun q hq => by omega) HB.out (by have := HB.out.size; omega) (by omega) ?_; intro v1 w1 hr1 hb1 hg1 ha1; have HO3 := Aside0.mk hr1; have HB3 := Aside0.mk hb1; clear hr1 hb1 hg1 ha1)
    go_ret
    exact RetR.mk (by have := HA.out; simp [put] at this; rw [← this]; exact Kd.R_mono HO3.out (fun _ _ => trivial)) HB3.out
theorem putAll_snoc : ∀ (l S : List Rw) (x : Rw), putAll S (l ++ [x]) = put x (putAll S l)
 | [], S, x => rfl
 | r :: l, S, x => by rw [List.cons_append, putAll, putAll_snoc l]; rfl
theorem putAll_lenX : ∀ (l S : List Rw), (putAll S l).length ≤ S.length + l.length
 | [], S => by simp [putAll]
 | r :: l, S => by have h1 := putAll_lenX l (put r S); have h2 := put_len r S; rw [putAll, List.length_cons]; omega
set_option maxRecDepth 100000 in
set_option maxHeartbeats 2000000 in
theorem spec_l2Sum (v : Value) (l : List Rw) (w : World) (h : Sl kRw w v l) (hl : l.length < 900000000000) : Calls Try.prog 96 #[v] w (RetR kRw 102 w (sum l)) := by
 obtain ⟨A, c_, rfl, HC, hr⟩ := h
 have hm := Kd.C_max hr
 have HR := Aside0.mk hr
 clear hr
 have HB := Aside0.mk (Below.refl w.heap.size w)
 go_enter Try.func96, Try.ntmps96
 go_wp2
 go_loopw [3, 4] (fun o i wr => ∃ (k : Nat), k ≤ l.length ∧ i = .int .i64 k ∧ Aside0 (kRw.R 102 wr w.heap.size okT o (putAll [] (l.take k))) ∧ Aside0 (Below w.heap.size w wr)) (fun _ i _ => l.length - (intOf i).toNat)
 case atStart => exact ⟨0, Nat.zero_le _, rfl, ⟨by simpa [putAll] using R_none (blk_new w _) (by omega) trivial⟩, ⟨below_alloc HB.out _⟩⟩
 case round =>
  obtain ⟨k, hk, rfl, HO, HB⟩ := hrel
  have hS := putAll_lenX (l.take k) []
  have hT : (l.take k).length ≤ k := by rw [List.length_take]; omega
  by_cases hlt : k < l.length
  ·obtain ⟨ad, x, e, HX, h0, h1, h2, h3, h4⟩ := rdRw HR.out HB.out hlt
   cases e
   have hc := Aside0.mk (spec_l2Put u3 (putAll [] (l.take k)) x wr (Sl.of_R HO.out) (by simp at hS; omega))
   go_wp2_with (go_at_call 142; refine hc.out.mono ?_; rintro e w' ⟨v2, rfl, hr, hb⟩; have HO2 := Aside0.mk (Kd.R_lower hr HB.out.size); replace HB := Aside0.mk (bthen HB.out hb); clear hr hb)
   go_roundw
   case rel => exact ⟨k + 1, by omega, by go_num, ⟨by rw [take_snoc HX.out, putAll_snoc]; exact HO2.out⟩, HB⟩
   case measure => simp [intOf]; omega
  ·obtain rfl : k = l.length := by omega
   rw [List.take_length] at HO hS
   obtain ⟨A2, c2, e2, hc2, hr2⟩ := Sl.of_R HO.out
   have hm2 := Kd.C_max hr2
   cases e2
   have HR2 := Aside0.mk hr2
   clear hr2
   have HB0 := HB
   clear HB
   rename World => ws
   go_wp2
   go_loopw [5, 6] (fun o i wq => ∃ (k : Nat) (acc : List Rw), k ≤ (putAll [] l).length ∧ i = .int .i64 k ∧ acc.length ≤ k ∧ Aside0 (acc = nonZero ((putAll [] l).take k)) ∧ Aside0 (kRw.R 102 wq ws.heap.size okT o acc) ∧ Aside0 (Below ws.heap.size ws wq)) (fun _ i _ => (putAll [] l).length - (intOf i).toNat)
   case atStart => exact ⟨0, [], Nat.zero_le _, rfl, Nat.zero_le _, ⟨by simp [nonZero]⟩, ⟨R_none (blk_new ws _) (by omega) trivial⟩, ⟨below_alloc (Below.refl _ _) _⟩⟩
   case round =>
    obtain ⟨k, acc, hk, rfl, ha, HA, HO3, HB3⟩ := hrel
    by_cases hlt : k < (putAll [] l).length
    ·obtain ⟨ad, x, e, HX, h0, h1, h2, h3, h4⟩ := rdRw HR2.out HB3.out hlt
     cases e
     by_cases hz : x.f3 = 0
     ·have e1 : (x.f3 != 0) = false := by simp [hz]
      go_wp2
      go_roundw
      case rel => exact ⟨k + 1, acc, by omega, by go_num, by omega, ⟨by rw [take_snoc HX.out, HA.out]; simp [nonZero, hz]⟩, HO3, HB3⟩
      case measure => simp [intOf]; omega
     ·have e1 : (x.f3 != 0) = true := by simp [hz]
      go_wp2_with (at_builtin; refine appRw (w0 := ws) (base := ws.heap.size) (xs := acc) (ok := okT) rfl rfl rfl HO3.out (fun _ _ => trivial) HB3.out (by have := HB3.out.size; omega) (by simp at hS; omega) ?_; intro v1 w1 hr1 hb1 hg1 ha1; have HO4 := Aside0.mk hr1; have HB4 := Aside0.mk hb1; clear hr1 hb1 hg1 ha1)
      go_roundw
      case rel => exact ⟨k + 1, acc ++ [x], by omega, by go_num, by simp; omega, ⟨by rw [take_snoc HX.out, HA.out]; simp [nonZero, hz]⟩, HO4, HB4⟩
      case measure => simp [intOf]; omega
    ·obtain rfl : k = (putAll [] l).length := by omega
     rw [List.take_length] at HA
     go_wp2
     go_ret
     exact RetR.mk (by have := HA.out; rw [show sum l = acc from by rw [this]; rfl]; exact Kd.R_lower HO3.out HB0.out.size) (bthen HB0.out HB3.out)
end Go.Proofs.Ytkdendlgaaimbaa.X
namespace Go.Proofs.Ytkdendlgaaimbaa.X
open Go.RowKit Go.Proofs.YtkdendlgaaimbaaW.PrintWords
set_option linter.unusedVariables false
set_option linter.unusedSimpArgs false
section
variable {ops : Array Oper} {o : Oper} {a : Act} {Q : Exit → Act → World → Prop} {Kc : Act → World → Prop}
theorem stepRw {W : World} {base : Nat} {s x : Operand} {p0 p1 p2 p3 p4 : Int} {xs : List Rw} {ok : Nat → Prop} (hw : Region.wanted o (yielded ops a.tmps) = true)
  (ho : o.op = .call { callee := .builtin .append, args := #[s, x], argTypes := #[27, 27] })
  (hx : a.eval x = .slice (some ⟨W.heap.size, 0, none⟩) 1 1) (HO : kRw.R 102 W base ok (a.eval s) xs) (hfresh : ∀ k, W.heap.size ≤ k → ok k) (hbase : base ≤ W.heap.size) (hl : xs.length < 3518437208000)
  (h : ∀ v1 w1, kRw.R 102 w1 base ok v1 (xs ++ [⟨p0, p1, ⟨p2, p3⟩, p4⟩]) → Below base W w1 → W.grownBy w1 (a.eval s).ownBlock → Kc (a.put o.dst v1) w1) :
  if Region.wanted o (yielded ops a.tmps) = true then Oper.wp Try.prog o a (W.alloc (.cells #[.int .i64 p0, .int .i64 p1, .int .i64 p2, .int .i64 p3, .int .i64 p4] 102)) Kc Q else Kc (a.put o.dst undef) (W.alloc (.cells #[.int .i64 p0, .int .i64 p1, .int .i64 p2, .int .i64 p3, .int .i64 p4] 102)) :=
 Kd.R_append_step kRw (w0 := W) base hw s x 27 102 (.agg #[.int .i64 0, .int .i64 0, .int .i64 0, .int .i64 0, .int .i64 0]) 40 ho Try.underlying27 infoRw rfl (by decide) (by omega) _ xs ⟨p0, p1, ⟨p2, p3⟩, p4⟩ _ ok (fun _ => False) rfl hx (kRw_M.2 rfl) (fun _ hk => hk.elim) hfresh HO (Below.refl _ _) hbase (by omega) (fun v1 w1 h1 h2 h3 _ => h v1 w1 h1 h2 h3)
theorem stepIt {W : World} {base : Nat} {s x : Operand} {p0 p1 p2 : Int} {xs : List It} {ok : Nat → Prop} (hw : Region.wanted o (yielded ops a.tmps) = true)
  (ho : o.op = .call { callee := .builtin .append, args := #[s, x], argTypes := #[46, 46] })
  (hx : a.eval x = .slice (some ⟨W.heap.size, 0, none⟩) 1 1) (HO : kIt.R 118 W base ok (a.eval s) xs) (hfresh : ∀ k, W.heap.size ≤ k → ok k) (hbase : base ≤ W.heap.size) (hl : xs.length < 3518437208000)
  (h : ∀ v1 w1, kIt.R 118 w1 base ok v1 (xs ++ [⟨p0, p1, p2⟩]) → Below base W w1 → W.grownBy w1 (a.eval s).ownBlock → Kc (a.put o.dst v1) w1) :
  if Region.wanted o (yielded ops a.tmps) = true then Oper.wp Try.prog o a (W.alloc (.cells #[.int .i64 p0, .int .i64 p1, .int .i64 p2] 118)) Kc Q else Kc (a.put o.dst undef) (W.alloc (.cells #[.int .i64 p0, .int .i64 p1, .int .i64 p2] 118)) :=
 Kd.R_append_step kIt (w0 := W) base hw s x 46 118 (.agg #[.int .i64 0, .int .i64 0, .int .i64 0]) 24 ho Try.underlying46 infoIt rfl (by decide) (by omega) _ xs ⟨p0, p1, p2⟩ _ ok (fun _ => False) rfl hx (kIt_M.2 rfl) (fun _ hk => hk.elim) hfresh HO (Below.refl _ _) hbase (by omega) (fun v1 w1 h1 h2 h3 _ => h v1 w1 h1 h2 h3)
end
theorem below_more {B : Nat} {w W W1 : World} (h : Below B w W) (hb : Below B W W1) : Below B w W1 := ⟨hb.os.trans h.os, hb.tape.trans h.tape, hb.output.trans h.output, Nat.le_trans h.size hb.size, fun k hk => (hb.block k hk).trans (h.block k hk)⟩
theorem R_drew {α : Type} {d : Kd α} {e base : Nat} {ok : Nat → Prop} {v : Value} {xs : List α} {W : World} (h : d.R e W base ok v xs) : d.R e W.drew base ok v xs := Kd.R_below h (below_drew (Below.refl _ _))
theorem rdItAt {w wr : World} {ad : Addr} {k : Nat} {xs : List It} {x : It} (h : kIt.C w (some ad) xs.length xs) (hb : Below w.heap.size w wr) (hx : xs[k]? = some x) : wr.cell? (ad.add (k * 3)) = some (.int .i64 x.f0) ∧ wr.cell? ⟨(ad.add (k * 3)).block, (ad.add (k * 3)).off + 1, none⟩ = some (.int .i64 x.f1) ∧ wr.cell? ⟨(ad.add (k * 3)).block, (ad.add (k * 3)).off + 2, none⟩ = some (.int .i64 x.f2) := by
 obtain ⟨ad', y, e, HY, h0, h1, h2⟩ := rdIt h hb (List.getElem?_eq_some_iff.1 hx).1
 cases e
 rw [hx] at HY
 cases HY.out
 exact ⟨h0, h1, h2⟩
set_option maxRecDepth 100000 in
set_option maxHeartbeats 2000000 in
theorem spec_l2Items (v : Value) (l : List It) (w : World) (h : Sl kIt w v l) (hl : l.length < 800000000000) : Calls Try.prog 140 #[v] w (RetR kIt 118 w (items l)) := by
 obtain ⟨A, c_, rfl, HC, hr⟩ := h
 have hm := Kd.C_max hr
 have HR := Aside0.mk hr
 clear hr
 have HB := Aside0.mk (Below.refl w.heap.size w)
 go_enter Try.func140, Try.ntmps140
 go_wp2
 go_loopw [3, 4] (fun o i wr => ∃ (k : Nat), k ≤ l.length ∧ i = .int .i64 k ∧ Aside0 (kRw.R 102 wr w.heap.size okT o ((l.take k).map rowOf)) ∧ Aside0 (Below w.heap.size w wr)) (fun _ i _ => l.length - (intOf i).toNat)
 case atStart => exact ⟨0, Nat.zero_le _, rfl, ⟨R_none (blk_new w _) (by omega) trivial⟩, ⟨below_alloc HB.out _⟩⟩
 case round =>
  obtain ⟨k, hk, rfl, HO, HB⟩ := hrel
  by_cases hlt : k < l.length
  ·obtain ⟨ad, x, e, HX, h0, h1, h2⟩ := rdIt HR.out HB.out hlt
   cases e
   have hws := HB.out.size
   go_wp2
   refine name_world fun W hW => ?_
   rw [← hW] at HO HB h0 h1 h2 hws
   clear hW
   go_region_held3 (fun w' => w'.cell? (ad.add (k * 3)) = some (.int .i64 x.f0) ∧ w'.cell? ⟨(ad.add (k * 3)).block, (ad.add (k * 3)).off + 1, none⟩ = some (.int .i64 x.f1) ∧ w'.cell? ⟨(ad.add (k * 3)).block, (ad.add (k * 3)).off + 2, none⟩ = some (.int .i64 x.f2)) (first | exact ⟨h0, h1, h2⟩ | exact HM | exact ⟨pw_cell_below (by repeat (first | exact Below.refl _ _ | apply below_alloc | apply below_drew)) h0, pw_cell_below (by repeat (first | exact Below.refl _ _ | apply below_alloc | apply below_drew)) h1, pw_cell_below (by repeat (first | exact Below.refl _ _ | apply below_alloc | apply below_drew)) h2⟩)
    (first | (refine stepRw (W := W.drew) (base := w.heap.size) (xs := (l.take k).map rowOf) (ok := okT) rfl rfl rfl (R_drew HO.out) (fun _ _ => trivial) (by show w.heap.size ≤ W.heap.size; omega) (by rw [List.length_map, List.length_take]; omega) ?_; intro v1 w1 hr1 hb1 hg1; have HO4 := Aside0.mk hr1; have HB4 := Aside0.mk (below_more (below_drew HB.out) hb1); have HM := rdItAt HR.out HB4.out HX.out; clear hr1 hb1 hg1))
   go_wp2
   go_roundw
   case rel => exact ⟨k + 1, by omega, by go_num, ⟨by rw [take_snoc HX.out, List.map_append]; exact HO4.out⟩, HB4⟩
   case measure => simp [intOf]; omega
  ·obtain rfl : k = l.length := by omega
   rw [List.take_length] at HO
   have hc := Aside0.mk (spec_l2Sum u3 (l.map rowOf) wr (Sl.of_R HO.out) (by simp; omega))
   have hsl := sum_len (l.map rowOf)
   rw [List.length_map] at hsl
   clear HO
   go_wp2_with (go_at_call 96; refine hc.out.mono ?_; rintro e ws ⟨v2, rfl, hr, hb⟩; replace HB := Aside0.mk (bthen HB.out hb); obtain ⟨A2, c2, rfl, hc2, hr2⟩ := Sl.of_R hr; have hm2 := Kd.C_max hr2; have HR2 := Aside0.mk hr2; clear hr hb hr2)
   have HB0 := HB
   clear HB
   go_loopw [6, 7] (fun o i wq => ∃ (k : Nat), k ≤ (sum (l.map rowOf)).length ∧ i = .int .i64 k ∧ Aside0 (kIt.R 118 wq ws.heap.size okT o (((sum (l.map rowOf)).take k).map itemOf)) ∧ Aside0 (Below ws.heap.size ws wq)) (fun _ i _ => (sum (l.map rowOf)).length - (intOf i).toNat)
   case atStart => exact ⟨0, Nat.zero_le _, rfl, ⟨R_none (blk_new ws _) (by omega) trivial⟩, ⟨below_alloc (Below.refl _ _) _⟩⟩
   case round =>
    obtain ⟨k, hk, rfl, HO, HB⟩ := hrel
    by_cases hlt : k < (sum (l.map rowOf)).length
    ·obtain ⟨ad, x, e, HX, h0, h1, h2, h3, h4⟩ := rdRw HR2.out HB.out hlt
     cases e
     have hws := HB.out.size
     go_wp2
     refine name_world fun W hW => ?_
     rw [← hW] at HO HB h0 h1 h4 hws
     clear hW
     go_region_held3 (fun w' => w'.cell? (ad.add (k * 5)) = some (.int .i64 x.f0) ∧ w'.cell? ⟨(ad.add (k * 5)).block, (ad.add (k * 5)).off + 1, none⟩ = some (.int .i64 x.f1) ∧ w'.cell? ⟨(ad.add (k * 5)).block, (ad.add (k * 5)).off + 4, none⟩ = some (.int .i64 x.f3)) (first | exact ⟨h0, h1, h4⟩ | exact HM | exact ⟨pw_cell_below (by repeat (first | exact Below.refl _ _ | apply below_alloc | apply below_drew)) h0, pw_cell_below (by repeat (first | exact Below.refl _ _ | apply below_alloc | apply below_drew)) h1, pw_cell_below (by repeat (first | exact Below.refl _ _ | apply below_alloc | apply below_drew)) h4⟩)
      (first | (refine stepIt (W := W.drew) (base := ws.heap.size) (xs := ((sum (l.map rowOf)).take k).map itemOf) (ok := okT) rfl rfl rfl (R_drew HO.out) (fun _ _ => trivial) (by show ws.heap.size ≤ W.heap.size; omega) (by rw [List.length_map, List.length_take]; omega) ?_; intro v1 w1 hr1 hb1 hg1; have HO4 := Aside0.mk hr1; have HB4 := Aside0.mk (below_more (below_drew HB.out) hb1); have HM := And.intro (rdRwAt HR2.out HB4.out HX.out).1 (And.intro (rdRwAt HR2.out HB4.out HX.out).2.1 (rdRwAt HR2.out HB4.out HX.out).2.2.2.2); clear hr1 hb1 hg1))
     go_wp2
     go_roundw
     case rel => exact ⟨k + 1, by omega, by go_num, ⟨by rw [take_snoc HX.out, List.map_append]; exact HO4.out⟩, HB4⟩
     case measure => simp [intOf]; omega
    ·obtain rfl : k = (sum (l.map rowOf)).length := by omega
     rw [List.take_length] at HO
     go_wp2
     go_ret
     exact RetR.mk (Kd.R_lower HO.out HB0.out.size) (bthen HB0.out HB.out)
theorem rowOk_tm {r : Rw} (h : rowOk r = true) : tOk r.f2 = true := by simp only [rowOk, Bool.and_eq_true] at h; exact h.1.1.2
theorem presentOf_snoc {l : List Rw} {k : Nat} {x : Rw} (hx : l[k]? = some x) (t : Tm) : presentOf (l.take (k + 1)) t = presentOf (l.take k) t ++ (if below x.f2 t then [itemOf x] else []) := by
 rw [take_snoc hx]; unfold presentOf; rw [List.filter_append, List.map_append]
 cases hb : below x.f2 t <;> simp [hb]
theorem presentOf_len (l : List Rw) (t : Tm) : (presentOf l t).length ≤ l.length := by unfold presentOf; rw [List.length_map]; exact List.length_filter_le _ _
set_option maxRecDepth 100000 in
set_option maxHeartbeats 2000000 in
theorem spec_BatchAt (v : Value) (l : List Rw) (t : Tm) (w : World) (h : Sl kRw w v l) : Calls Try.prog 90 #[v, .agg #[.int .i64 t.f0, .int .i64 t.f1]] w (RetR kIt 118 w (batchAt l t)) := by
 have HS := Aside0.mk h
 obtain ⟨A, c_, rfl, HC, hr⟩ := h
 have hm := Kd.C_max hr
 have HR := Aside0.mk hr
 clear hr
 have HN := Aside0.mk (R_none (d := kIt) (e := 118) (base := (w.alloc (.cells #[.int .i64 t.f0, .int .i64 t.f1] 43)).heap.size) (ok := okT) (blk_two w (.cells #[.int .i64 t.f0, .int .i64 t.f1] 43) (.cells #[] 118)) (by simp) trivial)
 have HBw := Aside0.mk (below_alloc (Below.refl w.heap.size w) (.cells #[.int .i64 t.f0, .int .i64 t.f1] 43))
 have HRb := Aside0.mk (Kd.C_below HR.out HBw.out)
 have HBb := Aside0.mk (below_alloc (Below.refl (w.alloc (.cells #[.int .i64 t.f0, .int .i64 t.f1] 43)).heap.size (w.alloc (.cells #[.int .i64 t.f0, .int .i64 t.f1] 43))) (.cells #[] 118))
 have gb0 := Aside0.mk (show (w.alloc (.cells #[.int .i64 t.f0, .int .i64 t.f1] 43)).cell? ⟨w.heap.size, 0, none⟩ = some (.int .i64 t.f0) from blk_cell (blk_new w _) 0)
 have gb1 := Aside0.mk (show (w.alloc (.cells #[.int .i64 t.f0, .int .i64 t.f1] 43)).cell? ⟨w.heap.size, 1, none⟩ = some (.int .i64 t.f1) from blk_cell (blk_new w _) 1)
 have HB2 := Aside0.mk (below_alloc (below_alloc (Below.refl w.heap.size w) (.cells #[.int .i64 t.f0, .int .i64 t.f1] 43)) (.cells #[] 118))
 cases hro : rowsOk l
 ·
  have HB := Aside0.mk (Below.refl w.heap.size w)
  go_enter Try.func90, Try.ntmps90
  go_wp2_with (go_at_call 135; refine (spec_RowsOk _ l _ (Sl.below HS.out HB2.out)).mono ?_; rintro e w' ⟨rfl, hb⟩; replace HN := Aside0.mk (Kd.R_below HN.out hb); replace HB2 := Aside0.mk (bthen HB2.out hb))
  go_ret
  exact RetR.mk (by simpa [batchAt, hro] using Kd.R_lower HN.out (by simp)) HB2.out
 ·cases hto : tOk t
  ·
   have HB := Aside0.mk (Below.refl w.heap.size w)
   go_enter Try.func90, Try.ntmps90
   go_wp2_with (first | (go_at_call 135; refine (spec_RowsOk _ l _ (Sl.below HS.out HB2.out)).mono ?_; rintro e w' ⟨rfl, hb⟩; have g0 : w'.cell? ⟨w.heap.size, 0, none⟩ = some (.int .i64 t.f0) := pw_cell_below hb (blk_cell (blk_alloc (blk_new w _) _) 0); have g1 : w'.cell? ⟨w.heap.size, 1, none⟩ = some (.int .i64 t.f1) := pw_cell_below hb (blk_cell (blk_alloc (blk_new w _) _) 1); replace HN := Aside0.mk (Kd.R_below HN.out hb); replace HB2 := Aside0.mk (bthen HB2.out hb)) | (go_at_call 29; refine (spec_TimeOk t.f0 t.f1 _).mono ?_; rintro e w2 ⟨rfl, hb⟩; replace HN := Aside0.mk (Kd.R_below HN.out hb); replace HB2 := Aside0.mk (bthen HB2.out hb)))
   go_ret
   exact RetR.mk (by simpa [batchAt, hro, hto] using Kd.R_lower HN.out (by simp)) HB2.out
  ·have hl4 : l.length ≤ 400 := by simp only [rowsOk, Bool.and_eq_true, decide_eq_true_eq] at hro; exact hro.2
   have hall : Aside0 (∀ r ∈ l, rowOk r = true) := ⟨by simp only [rowsOk, Bool.and_eq_true, List.all_eq_true] at hro; exact hro.1⟩
   have HB := Aside0.mk (Below.refl w.heap.size w)
   go_enter Try.func90, Try.ntmps90
   go_wp2_with (first | (go_at_call 135; refine (spec_RowsOk _ l _ (Sl.below HS.out HB2.out)).mono ?_; rintro e w' ⟨rfl, hb⟩; have g0 : w'.cell? ⟨w.heap.size, 0, none⟩ = some (.int .i64 t.f0) := pw_cell_below hb (blk_cell (blk_alloc (blk_new w _) _) 0); have g1 : w'.cell? ⟨w.heap.size, 1, none⟩ = some (.int .i64 t.f1) := pw_cell_below hb (blk_cell (blk_alloc (blk_new w _) _) 1); replace HN := Aside0.mk (Kd.R_below HN.out hb); replace HB2 := Aside0.mk (bthen HB2.out hb); replace HBb := Aside0.mk (bthen HBb.out hb)) | (go_at_call 29; refine (spec_TimeOk t.f0 t.f1 _).mono ?_; rintro e w2 ⟨rfl, hb⟩; replace HN := Aside0.mk (Kd.R_below HN.out hb); replace HB2 := Aside0.mk (bthen HB2.out hb); replace HBb := Aside0.mk (bthen HBb.out hb)))
   go_loopw [5, 6] (fun o i wr => ∃ (k : Nat), k ≤ l.length ∧ i = .int .i64 k ∧ Aside0 (kIt.R 118 wr (w.alloc (.cells #[.int .i64 t.f0, .int .i64 t.f1] 43)).heap.size okT o (presentOf (l.take k) t)) ∧ Aside0 (Below (w.alloc (.cells #[.int .i64 t.f0, .int .i64 t.f1] 43)).heap.size (w.alloc (.cells #[.int .i64 t.f0, .int .i64 t.f1] 43)) wr)) (fun _ i _ => l.length - (intOf i).toNat)
   case atStart => exact ⟨0, Nat.zero_le _, rfl, HN, HBb⟩
   case round =>
    clear HN HB2 HBb g0 g1
    obtain ⟨k, hk, rfl, HO, HB⟩ := hrel
    have hpl := presentOf_len (l.take k) t
    rw [List.length_take] at hpl
    have g0 := pw_cell_below HB.out gb0.out
    have g1 := pw_cell_below HB.out gb1.out
    have hws := HB.out.size
    by_cases hlt : k < l.length
    ·obtain ⟨ad, x, e, HX, h0, h1, h2, h3, h4⟩ := rdRw HRb.out HB.out hlt
     cases e
     have p0 := fun u => Ext.cell h0 u
     have p1 := fun u => Ext.cell h1 u
     have p2 := fun u => Ext.cell h2 u
     have p3 := fun u => Ext.cell h3 u
     have p4 := fun u => Ext.cell h4 u
     have q0 := fun u => Ext.cell g0 u
     have q1 := fun u => Ext.cell g1 u
     have htl : tLess x.f2 t = below x.f2 t := by
      have := rowOk_tm (hall.out x (List.mem_of_getElem? HX.out))
      unfold tLess; rw [this, hto]; rfl
     cases hbw : below x.f2 t
     ·have TL : ∀ W, Calls Try.prog 137 #[.agg #[.int .i64 x.f2.f0, .int .i64 x.f2.f1], .agg #[.int .i64 t.f0, .int .i64 t.f1]] W (RetV W (.bool false)) := fun W => by
       have := spec_TimeLess x.f2.f0 x.f2.f1 t.f0 t.f1 W
       rw [show tLess ⟨x.f2.f0, x.f2.f1⟩ ⟨t.f0, t.f1⟩ = false from htl.trans hbw] at this
       exact this
      go_wp2
      refine wp_region_ext (by kernel_rfl) (by kernel_rfl) ?_
      repeat (any_goals (first | go_big_quiet_step ((go_at_call 137; exact Calls.extV (TL _))) | quiet_step ((go_at_call 137; exact Calls.extV (TL _))) | (refine wpQuiet_step (fun K hK => ?_); go_simp; split <;> (refine hK _ ?_; clear hK K))))
      all_goals (refine wpQuiet_nil ?_; intro u)
      have HB3 := Aside0.mk (bthen HB.out u.bel)
      have HO3 := Aside0.mk (Kd.R_below HO.out u.bel)
      clear p0 p1 p2 p3 p4 q0 q1 TL
      go_wp2
      go_roundw
      case rel => exact ⟨k + 1, by omega, by go_num, ⟨by rw [presentOf_snoc HX.out, hbw]; simpa using HO3.out⟩, HB3⟩
      case measure => simp [intOf]; omega
     ·have TL : ∀ W, Calls Try.prog 137 #[.agg #[.int .i64 x.f2.f0, .int .i64 x.f2.f1], .agg #[.int .i64 t.f0, .int .i64 t.f1]] W (RetV W (.bool true)) := fun W => by
       have := spec_TimeLess x.f2.f0 x.f2.f1 t.f0 t.f1 W
       rw [show tLess ⟨x.f2.f0, x.f2.f1⟩ ⟨t.f0, t.f1⟩ = true from htl.trans hbw] at this
       exact this
      go_wp2
      refine wp_region_ext (by kernel_rfl) (by kernel_rfl) ?_
      repeat (any_goals (first | go_big_quiet_step ((go_at_call 137; exact Calls.extV (TL _))) | quiet_step ((go_at_call 137; exact Calls.extV (TL _))) | (refine wpQuiet_step (fun K hK => ?_); go_simp; split <;> (refine hK _ ?_; clear hK K))))
      all_goals (refine wpQuiet_nil ?_; intro u)
      have HB3 := Aside0.mk (bthen HB.out u.bel)
      have HO3 := Aside0.mk (Kd.R_below HO.out u.bel)
      replace h0 := p0 u
      replace h1 := p1 u
      replace h4 := p4 u
      have hw3 := HB3.out.size
      clear p0 p1 p2 p3 p4 q0 q1 TL h2 h3 g0 g1 hws HB HO
      generalize u.w' = W3 at *
      go_wp2
      refine name_world fun W hW => ?_
      rw [← hW] at HO3 HB3 h0 h1 h4 hw3
      clear hW
      go_region_held3 (fun w' => w'.cell? (ad.add (k * 5)) = some (.int .i64 x.f0) ∧ w'.cell? ⟨(ad.add (k * 5)).block, (ad.add (k * 5)).off + 1, none⟩ = some (.int .i64 x.f1) ∧ w'.cell? ⟨(ad.add (k * 5)).block, (ad.add (k * 5)).off + 4, none⟩ = some (.int .i64 x.f3)) (first | exact ⟨h0, h1, h4⟩ | exact HM | exact ⟨pw_cell_below (by repeat (first | exact Below.refl _ _ | apply below_alloc | apply below_drew)) h0, pw_cell_below (by repeat (first | exact Below.refl _ _ | apply below_alloc | apply below_drew)) h1, pw_cell_below (by repeat (first | exact Below.refl _ _ | apply below_alloc | apply below_drew)) h4⟩)
       (first | (refine stepIt (W := W.drew) (base := (w.alloc (.cells #[.int .i64 t.f0, .int .i64 t.f1] 43)).heap.size) (xs := presentOf (l.take k) t) (ok := okT) rfl rfl rfl (R_drew HO3.out) (fun _ _ => trivial) (by show (w.alloc (.cells #[.int .i64 t.f0, .int .i64 t.f1] 43)).heap.size ≤ W.heap.size; omega) (by omega) ?_; intro v1 w1 hr1 hb1 hg1; have HO4 := Aside0.mk hr1; have HB4 := Aside0.mk (below_more (below_drew HB3.out) hb1); have HM := And.intro (rdRwAt HRb.out HB4.out HX.out).1 (And.intro (rdRwAt HRb.out HB4.out HX.out).2.1 (rdRwAt HRb.out HB4.out HX.out).2.2.2.2); clear hr1 hb1 hg1))
      go_wp2
      go_roundw
      case rel => exact ⟨k + 1, by omega, by go_num, ⟨by rw [presentOf_snoc HX.out, hbw]; exact HO4.out⟩, HB4⟩
      case measure => simp [intOf]; omega
    ·obtain rfl : k = l.length := by omega
     rw [List.take_length] at HO
     have hpl2 := presentOf_len l t
     have hc := Aside0.mk (spec_l2Items u5 (presentOf l t) wr (Sl.of_R HO.out) (by omega))
     go_wp2_with (go_at_call 140; refine hc.out.mono ?_; rintro e w5 ⟨v2, rfl, hr, hb⟩; have HF := Aside0.mk (Kd.R_lower hr (Nat.le_trans (show w.heap.size ≤ (w.alloc (.cells #[.int .i64 t.f0, .int .i64 t.f1] 43)).heap.size by simp) hws)); have HBF := Aside0.mk (bthen HBw.out (bthen HB.out hb)); clear hr hb)
     go_ret
     exact RetR.mk (by unfold batchAt; rw [hro, hto]; exact HF.out) HBF.out
end Go.Proofs.Ytkdendlgaaimbaa.X
namespace Go.Proofs.Ytkdendlgaaimbaa.X
open Go.RowKit Go.Proofs.YtkdendlgaaimbaaW.PrintWords
set_option linter.unusedVariables false
set_option linter.unusedSimpArgs false
structure RS (s : List Int) : Prop where
 len : s.length ≤ 2000
 by_ : ∀ x ∈ s, 0 ≤ x ∧ x ≤ 255
structure Rd (w0 : World) (rb : Nat) (s : List Int) (p : Int) (W : World) : Prop where
 blk : ∃ A c, W.heap[rb]? = some (.cells #[.slice A s.length c, .int .i64 p] 145 (0, 0)) ∧ kB.C w0 A s.length s
 bel : Below w0.heap.size w0 W
 ge : w0.heap.size ≤ rb
 nn : 0 ≤ p
def Adv (w0 : World) (rb : Nat) (s : List Int) (p d : Int) (W W' : World) : Prop := ∃ p', p ≤ p' ∧ p' ≤ p + d ∧ Rd w0 rb s p' W' ∧ W.grownBy W' (some rb)
theorem Rd.lt {w0 : World} {rb : Nat} {s : List Int} {p : Int} {W : World} (h : Rd w0 rb s p W) : rb < W.heap.size := by obtain ⟨A, c, h1, _⟩ := h.blk; exact blk_lt h1
theorem xor_nn {a b : Int} (ha : 0 ≤ a) (ha' : a < 9223372036854775808) (hb : 0 ≤ b) (hb' : b < 9223372036854775808) : 0 ≤ Go.bits .xor .i64 a b := by
 obtain ⟨n, rfl⟩ := Int.eq_ofNat_of_zero_le ha
 obtain ⟨m, rfl⟩ := Int.eq_ofNat_of_zero_le hb
 exact bits_xor_nonneg n m (by omega) (by omega)
theorem rdByte {w0 W : World} {A : Option Addr} {s : List Int} (h : RS s) (hr : kB.C w0 A s.length s) (hb : Below w0.heap.size w0 W) {i : Int} (h0 : 0 ≤ i) (h1 : i < s.length) : ∃ ad x, A = some ad ∧ 0 ≤ x ∧ x ≤ 255 ∧ W.cell? (ad.add i.toNat) = some (.int .u8 x) := by
 obtain ⟨j, rfl⟩ := Int.eq_ofNat_of_zero_le h0
 obtain ⟨ad, x, e, HX, hc⟩ := rdB hr hb (k := j) (by omega)
 have := h.by_ x (List.mem_of_getElem? HX.out)
 exact ⟨ad, x, e, this.1, this.2, by simpa using hc⟩
theorem Rd.below {w0 : World} {rb : Nat} {s : List Int} {p : Int} {W W' : World} (h : Rd w0 rb s p W) (hb : Below W.heap.size W W') : Rd w0 rb s p W' := ⟨(by obtain ⟨A, c, h1, h2⟩ := h.blk; exact ⟨A, c, blk_below h1 hb, h2⟩), bthen h.bel hb, h.ge, h.nn⟩
theorem grownBy_after {w w1 w2 : World} {r : Option Nat} (h : w.grownBy w1 r) (hb : Below w1.heap.size w1 w2) : w.grownBy w2 r :=
 ⟨hb.os.trans h.os, hb.tape.trans h.tape, hb.output.trans h.output, Nat.le_trans h.size hb.size, fun j hj hn => (hb.block j (Nat.lt_of_lt_of_le hj h.size)).trans (h.block j hj hn)⟩
set_option maxRecDepth 100000 in
set_option maxHeartbeats 2000000 in
theorem spec_pick {w0 W : World} {rb : Nat} {s : List Int} {p : Int} (hS : RS s) (h : Rd w0 rb s p W) (hp : p ≤ 1000000) (n : Int) (hn : 1 ≤ n) (hn2 : n ≤ 1000000) :
  Calls Try.prog 69 #[.pointer (some ⟨rb, 0, none⟩), .int .i64 n] W fun e W' => ∃ v, e = .returned (.int .i64 v) ∧ 0 ≤ v ∧ v < n ∧ Rd w0 rb s (p + 1) W' ∧ W.grownBy W' (some rb) := by
 have hnn := h.nn
 have hlen := hS.len
 obtain ⟨A, c, hblk, hrd⟩ := h.blk
 have hbl := blk_lt hblk
 have c0 : W.cell? ⟨rb, 0, none⟩ = some (.slice A s.length c) := blk_cell hblk 0
 have c1 : W.cell? ⟨rb, 1, none⟩ = some (.int .i64 p) := blk_cell hblk 1
 have hf : W.frozen? ⟨rb, 1, none⟩ = false := by simp [World.frozen?, hblk]
 have HRD := Aside0.mk hrd
 have e1 : wrap64 (p + 1) = p + 1 := by unfold wrap64; omega
 have hn1 : ¬ n < 1 := by omega
 have hn0 : ¬ n = 0 := by omega
 have md : Aside0 (∀ x : Int, 0 ≤ x → 0 ≤ Int.tmod x n ∧ Int.tmod x n < n) := ⟨fun x hx => ⟨Int.tmod_nonneg n hx, Int.tmod_lt_of_pos x (by omega)⟩⟩
 have K : Aside0 (Rd w0 rb s (p + 1) (W.setCell ⟨rb, 1, none⟩ (.int .i64 (p + 1))) ∧ W.grownBy (W.setCell ⟨rb, 1, none⟩ (.int .i64 (p + 1))) (some rb)) := ⟨⟨⟨A, c, blk_set hblk 1 _, hrd⟩, below_set h.bel h.ge, h.ge, by omega⟩, ⟨rfl, rfl, rfl, by simp, fun q _ hne => Below.heap_setCell _ _ _ _ (fun e => hne (by rw [e]))⟩⟩
 have hbel : Aside0 (Below w0.heap.size w0 (W.setCell ⟨rb, 1, none⟩ (.int .i64 (p + 1)))) := ⟨K.out.1.bel⟩
 have hSA := Aside0.mk hS
 have g0 : (W.setCell ⟨rb, 1, none⟩ (.int .i64 (p + 1))).cell? ⟨rb, 0, none⟩ = some (.slice A s.length c) := blk_cell (blk_set hblk 1 _) 0
 have G0 := Aside0.mk g0
 clear h hS hblk hrd g0
 by_cases hz : s.length = 0
 ·have hzb : ((s.length : Int) == 0) = true := by rw [hz]; rfl
  go_enter Try.func69, Try.ntmps69
  go_wp2
  go_ret
  exact ⟨0, rfl, by omega, by omega, K.out.1, K.out.2⟩
 ·have hzb : ((s.length : Int) == 0) = false := beq_eq_false_iff_ne.2 (by omega)
  have e2 : wrap64 (p + 1 - 1) = p := by unfold wrap64; omega
  have e2' : p + 1 - 1 = p := by omega
  by_cases hl : p < (s.length : Int)
  ·obtain ⟨ad, x, rfl, x0, x1, hx⟩ := rdByte hSA.out HRD.out hbel.out hnn hl
   go_enter Try.func69, Try.ntmps69
   go_wp2
   go_ret
   exact ⟨_, rfl, Int.emod_nonneg _ hn0, Int.emod_lt_of_pos _ (by omega), K.out.1, K.out.2⟩
  ·have q0 : 0 ≤ p % (s.length : Int) := Int.emod_nonneg _ (by omega)
   have q1 : p % (s.length : Int) < s.length := Int.emod_lt_of_pos _ (by omega)
   have q2 : 0 ≤ (p * 7 + 3) % (s.length : Int) := Int.emod_nonneg _ (by omega)
   have q3 : (p * 7 + 3) % (s.length : Int) < s.length := Int.emod_lt_of_pos _ (by omega)
   have hz2 : ¬ (s.length : Int) = 0 := by omega
   obtain ⟨ad, x, rfl, x0, x1, hx⟩ := rdByte hSA.out HRD.out hbel.out q0 q1
   obtain ⟨ad', y, e, y0, y1, hy⟩ := rdByte hSA.out HRD.out hbel.out q2 q3
   cases e
   have d0 : 0 ≤ p / (s.length : Int) := Int.ediv_nonneg hnn (by omega)
   have d1 : p / (s.length : Int) ≤ p := Int.ediv_le_self _ hnn
   have g0 := G0.out
   clear G0
   go_enter Try.func69, Try.ntmps69
   go_wp2
   refine name_world fun W1 hW1 => ?_
   rw [← hW1] at hx hy g0 K
   have p0 := fun u => Ext.cell hx u
   have p1 := fun u => Ext.cell hy u
   have p2 := fun u => Ext.cell g0 u
   clear hW1 c0 c1 hf hbl
   refine wp_region_ext (by kernel_rfl) (by kernel_rfl) ?_
   repeat (any_goals (first | go_big_quiet_step (fail) | quiet_step (fail) | (refine wpQuiet_step (fun K hK => ?_); go_simp; split <;> (refine hK _ ?_; clear hK K))))
   all_goals (refine wpQuiet_nil ?_; intro u)
   have hz0 : 0 ≤ x * 131 + y * 1117 + p * 29 + p / (s.length : Int) * 53 := by omega
   have hz1 : x * 131 + y * 1117 + p * 29 + p / (s.length : Int) * 53 < 9223372036854775808 := by omega
   generalize x * 131 + y * 1117 + p * 29 + p / (s.length : Int) * 53 = z at *
   have hxr := xor_nn hz0 hz1 (show 0 ≤ z / 64 by omega) (by omega)
   generalize hb : Go.bits .xor .i64 z (z / 64) = b at *
   go_wp2
   go_ret
   exact ⟨_, rfl, Int.emod_nonneg _ hn0, Int.emod_lt_of_pos _ (by omega), K.out.1.below u.bel, grownBy_after K.out.2 u.bel⟩
theorem blk_fz {w : World} {g : Nat} {t : TypeId} {cs : Array Value} (h : w.heap[g]? = some (.cells cs t (0, 0))) (i : Nat) : w.frozen? ⟨g, i, none⟩ = false := by simp [World.frozen?, h]
theorem gthen {w w1 w2 : World} {r : Option Nat} (h : w.grownBy w1 r) (k : w1.grownBy w2 r) : w.grownBy w2 r :=
 ⟨k.os.trans h.os, k.tape.trans h.tape, k.output.trans h.output, Nat.le_trans h.size k.size, fun j hj hn => (k.block j (Nat.lt_of_lt_of_le hj h.size) hn).trans (h.block j hj hn)⟩
theorem alloc_grown (w : World) (o : Obj) (r : Option Nat) : w.grownBy (w.alloc o) r := ⟨rfl, rfl, rfl, by simp, fun j hj _ => Below.heap_alloc w o j hj⟩
theorem set_grown (w : World) (p : Addr) (u : Value) (h : w.heap.size ≤ p.block) {w1 : World} {r : Option Nat} (hg : w.grownBy w1 r) : w.grownBy (w1.setCell p u) r :=
 ⟨hg.os, hg.tape, hg.output, by simpa using hg.size, fun j hj hn => (Below.heap_setCell _ _ _ _ (by omega)).trans (hg.block j hj hn)⟩
theorem Rd.far {w0 : World} {rb : Nat} {s : List Int} {p : Int} {W : World} (h : Rd w0 rb s p W) {a : Addr} (ha : rb ≠ a.block) (hg : w0.heap.size ≤ a.block) (u : Value) : Rd w0 rb s p (W.setCell a u) := ⟨(by obtain ⟨A, c, h1, h2⟩ := h.blk; exact ⟨A, c, blk_far h1 ha u, h2⟩), ⟨h.bel.os, h.bel.tape, h.bel.output, by simpa using h.bel.size, fun j hj => (Below.heap_setCell _ _ _ _ (by omega)).trans (h.bel.block j hj)⟩, h.ge, h.nn⟩
end Go.Proofs.Ytkdendlgaaimbaa.X
