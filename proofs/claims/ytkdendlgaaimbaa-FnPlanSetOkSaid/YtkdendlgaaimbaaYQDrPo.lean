/- Conditions: none. -/
import Derived.Test.YtkdendlgaaimbaaYQDrPn
namespace Go.Proofs.Ytkdendlgaaimbaa.X
open Go.RowKit Go.Proofs.YtkdendlgaaimbaaW.PrintWords
set_option linter.unusedVariables false
set_option linter.unusedSimpArgs false
theorem two_sets {w : World} {g : Nat} {ty : TypeId} {A B : Option Addr} {c d : Nat} {l m : List It} (hc : w.heap[g]? = some (.cells #[.slice A l.length c, .slice B m.length d] ty (0, 0))) (h1 : Sl kIt w (.slice A l.length c) l) (h2 : Sl kIt w (.slice B m.length d) m) :
  Sl (Kd.slice 118 kIt) w (.slice (some ⟨g, 0, none⟩) 2 2) [l, m] ∧ Sl (Kd.slice 118 kIt) w (.slice (some ⟨g, 1, none⟩) 1 1) [m] := by
 obtain ⟨A', c', e, h3, h4⟩ := h1
 cases e
 obtain ⟨A', c', e, h5, h6⟩ := h2
 cases e
 refine ⟨⟨_, _, rfl, Nat.le_refl _, rfl, by simp, fun _ => ⟨_, rfl, fun j p hj => ?_⟩⟩, ⟨_, _, rfl, Nat.le_refl _, rfl, by simp, fun _ => ⟨_, rfl, fun j p hj => ?_⟩⟩⟩
 ·match j, hj with
  | 0, hj =>
   have : l = p := by simpa using hj
   subst this
   refine ⟨[_], rfl, ⟨_, _, rfl, h3, h4⟩, fun i u hu => ?_⟩
   match i, hu with
   | 0, hu => cases hu; exact blk_cell hc 0
  | 1, hj =>
   have : m = p := by simpa using hj
   subst this
   refine ⟨[_], rfl, ⟨_, _, rfl, h5, h6⟩, fun i u hu => ?_⟩
   match i, hu with
   | 0, hu => cases hu; exact blk_cell hc 1
  | j + 2, hj => simp at hj
 ·match j, hj with
  | 0, hj =>
   have : m = p := by simpa using hj
   subst this
   refine ⟨[_], rfl, ⟨_, _, rfl, h5, h6⟩, fun i u hu => ?_⟩
   match i, hu with
   | 0, hu => cases hu; exact blk_cell hc 1
  | j + 1, hj => simp at hj
theorem draw_fin {w w0 W w1 w9 : World} {rb T g b2 b3 : Nat} {s : List Int} {p : Int} {x1 : Pn} {A1 B2 B3 : Option Addr} {c1 c2 c3 : Nat} {l2 l3 : List It} (hW0 : Below w.heap.size w w0) (hC : w9.heap[T]? = some (.cells #[.int .i64 0, .int .i64 0, .slice none 0 0] 62 (0, 0))) (hT : T = w.heap.size) (hR : Rd w0 rb s p w9) (hX : T < W.heap.size) (hF : PnF W.heap.size w1 (.slice A1 x1.f2.length c1) x1.f2) (hK : PnKp W.heap.size w1 w9)
  (h2 : kIt.R 118 w9 b2 (fun q => q ≠ rb) (.slice B2 l2.length c2) l2) (h3 : kIt.R 118 w9 b3 (fun q => q ≠ rb) (.slice B3 l3.length c3) l3) (hG : w9.heap[g]? = some (.cells #[.slice B2 l2.length c2, .slice B3 l3.length c3] 46 (0, 0))) (hb1 : T < w0.heap.size) (hb2 : T < b2) (hb3 : T < b3) (hg : T < g) (u0 u1 u2 : Value) :
  (((w9.setCell ⟨T, 0, none⟩ u0).setCell ⟨T, 1, none⟩ u1).setCell ⟨T, 2, none⟩ u2).heap[T]? = some (.cells #[u0, u1, u2] 62 (0, 0)) ∧ Sl kPn (((w9.setCell ⟨T, 0, none⟩ u0).setCell ⟨T, 1, none⟩ u1).setCell ⟨T, 2, none⟩ u2) (.slice A1 x1.f2.length c1) x1.f2 ∧
  (Sl (Kd.slice 118 kIt) (((w9.setCell ⟨T, 0, none⟩ u0).setCell ⟨T, 1, none⟩ u1).setCell ⟨T, 2, none⟩ u2) (.slice (some ⟨g, 0, none⟩) 2 2) [l2, l3] ∧ Sl (Kd.slice 118 kIt) (((w9.setCell ⟨T, 0, none⟩ u0).setCell ⟨T, 1, none⟩ u1).setCell ⟨T, 2, none⟩ u2) (.slice (some ⟨g, 1, none⟩) 1 1) [l3]) ∧ Below w.heap.size w (((w9.setCell ⟨T, 0, none⟩ u0).setCell ⟨T, 1, none⟩ u1).setCell ⟨T, 2, none⟩ u2) := by
 have hF9 := PnF.raw hF hK
 have k2 := Kd.R_mono (Kd.R_bound h2) (ok' := fun q => q ≠ T) (fun q hq => by have := hq.2.1; omega)
 have k3 := Kd.R_mono (Kd.R_bound h3) (ok' := fun q => q ≠ T) (fun q hq => by have := hq.2.1; omega)
 have far : ∀ {ls : List It} {b : Nat} {v : Value} {w : World} (o : Nat) (u : Value), kIt.R 118 w b (fun q => q ≠ T) v ls → kIt.R 118 (w.setCell ⟨T, o, none⟩ u) b (fun q => q ≠ T) v ls := fun o u h => Kd.R_far h (fun q hq => hq) u
 have hne : g ≠ T := by omega
 refine ⟨blk3 hC u0 u1 u2, (((hF9.set hX 0 u0).set hX 1 u1).set hX 2 u2).sl, two_sets (blk_far (blk_far (blk_far hG hne _) hne _) hne _) (Sl.of_R (far 2 u2 (far 1 u1 (far 0 u0 k2)))) (Sl.of_R (far 2 u2 (far 1 u1 (far 0 u0 k3)))), ?_⟩
 exact below_set (below_set (below_set (bthen hW0 hR.bel) (by show _ ≤ T; omega)) (by show _ ≤ T; omega)) (by show _ ≤ T; omega)
def DrPS (w : World) (e : Ending) (w' : World) : Prop := ∃ (x : Pn) (A : Option Addr) (c : Nat) (v2 : Value) (ins : List (List It)), e = .returned (.tuple #[.agg #[.int .i64 x.f0, .int .i64 x.f1, .slice A x.f2.length c], v2]) ∧ Sl kPn w' (.slice A x.f2.length c) x.f2 ∧ Sl (Kd.slice 118 kIt) w' v2 ins ∧ Below w.heap.size w w'
set_option maxRecDepth 100000 in
set_option maxHeartbeats 4000000 in
theorem spec_DrawPlanSet (v : Value) (l : List Int) (w : World) (h : Sl kB w v l) (hb : ∀ x ∈ l, 0 ≤ x ∧ x ≤ 255) : Calls Try.prog 40 #[v] w (DrPS w) := by
 obtain ⟨w0, hw0⟩ : ∃ w0, w0 = w.alloc (.cells #[.int .i64 0, .int .i64 0, .slice none 0 0] 62) := ⟨_, rfl⟩
 have C1 := spec_l6Open v l w0 (by rw [hw0]; exact h.below (below_alloc (Below.refl _ _) _)) hb
 have HC : Aside0 (w0.heap[w.heap.size]? = some (.cells #[.int .i64 0, .int .i64 0, .slice none 0 0] 62 (0, 0))) := ⟨by rw [hw0]; exact blk_new w _⟩
 have HW0 : Aside0 (Below w.heap.size w w0) := ⟨by rw [hw0]; exact below_alloc (Below.refl _ _) _⟩
 go_enter Try.func40, Try.ntmps40
 go_upto_region 1 with fail
 rw [← hw0]
 obtain ⟨T, hT⟩ : ∃ T, T = w.heap.size := ⟨_, rfl⟩
 rw [← hT] at HC ⊢
 have HTE := Aside0.mk hT
 have HTL := Aside0.mk (blk_lt HC.out)
 clear hw0 hT h
 go_upto_region 2 with (go_at_call 67; ((with_reducible refine C1.mono ?_); rintro e W ⟨rb, s, rfl, hs, hrd, hba⟩; have hS := Aside0.mk hs; have HR := Aside0.mk hrd; have HTR := Aside0.mk (Nat.lt_of_lt_of_le HTL.out hrd.ge); replace HC := Aside0.mk (blk_below HC.out hba); clear hs hrd hba))
 have hTr : T < rb := HTR.out
 have hrW := HR.out.lt
 go_upto_region 3 with (go_at_call 100; ((with_reducible refine (spec_l71Bent hS HR.out (by omega)).mono ?_); rintro e w1 ⟨x1, A1, c1, rfl, hf, p1, g1, f1, hr, hg⟩; have HF1 := Aside0.mk hf; replace HC := Aside0.mk (blk_grown HC.out hg (by intro e; have := Option.some.inj e; omega)); replace HR := Aside0.mk hr; have hWs := hg.size; clear hr hg hf))
 have HY := Aside0.mk (blk_new w1 (.cells #[.int .i64 x1.f0, .int .i64 x1.f1, .slice A1 x1.f2.length c1] 62))
 have hb1 := below_alloc (Below.refl w1.heap.size w1) (.cells #[.int .i64 x1.f0, .int .i64 x1.f1, .slice A1 x1.f2.length c1] 62)
 have HK : Aside0 (PnKp W.heap.size w1 (w1.alloc (.cells #[.int .i64 x1.f0, .int .i64 x1.f1, .slice A1 x1.f2.length c1] 62))) := ⟨PnKp.below ⟨Nat.le_refl _, fun _ _ _ => rfl⟩ hb1⟩
 replace HR := Aside0.mk (HR.out.below hb1)
 replace HC := Aside0.mk (blk_below HC.out hb1)
 generalize hW2 : w1.alloc (.cells #[.int .i64 x1.f0, .int .i64 x1.f1, .slice A1 x1.f2.length c1] 62) = W2 at *
 clear hW2 hb1
 obtain ⟨Y, hY⟩ : ∃ Y, Y = w1.heap.size := ⟨_, rfl⟩
 rw [← hY] at HY ⊢
 have hrY : rb < Y := by omega
 clear hY hWs
 go_upto_region 4 with (first
  | (go_at_call 101; ((with_reducible refine (spec_l71Set (W := wb) hS HR.out (by omega)).mono ?_); rintro e wc ⟨v3, l3, rfl, hr2, hd2, p3, g4, g5, hrc, hg⟩; have HO3 := Aside0.mk (R_off hr2 HR.out.lt); replace HO2 := Aside0.mk (R_pick HO2.out hg (fun q hq => hq)); obtain ⟨B3, c3, e3⟩ := Kd.R_slice hr2; subst e3; have HB3 := Aside0.mk (Nat.lt_trans hTr HR.out.lt); replace HK := Aside0.mk (HK.out.pick hg hrW); replace HC := Aside0.mk (blk_grown HC.out hg (by intro e; have := Option.some.inj e; omega)); replace HY := Aside0.mk (blk_grown HY.out hg (by intro e; have := Option.some.inj e; omega)); replace HR := Aside0.mk hrc; clear hr2 hd2 hrc hg))
  | (go_at_call 101; ((with_reducible refine (spec_l71Set hS HR.out (by omega)).mono ?_); rintro e wb ⟨v2, l2, rfl, hr2, hd2, p2, g2, g3, hrc, hg⟩; have HO2 := Aside0.mk (R_off hr2 HR.out.lt); obtain ⟨B2, c2, e2⟩ := Kd.R_slice hr2; subst e2; have HB2 := Aside0.mk (Nat.lt_trans hTr HR.out.lt); replace HK := Aside0.mk (HK.out.pick hg hrW); replace HC := Aside0.mk (blk_grown HC.out hg (by intro e; have := Option.some.inj e; omega)); replace HY := Aside0.mk (blk_grown HY.out hg (by intro e; have := Option.some.inj e; omega)); replace HR := Aside0.mk hrc; clear hr2 hd2 hrc hg)))
 have hbL := below_alloc (Below.refl wc.heap.size wc) (.cells #[.slice B2 l2.length c2, .slice B3 l3.length c3] 46)
 have HG := Aside0.mk (blk_new wc (.cells #[.slice B2 l2.length c2, .slice B3 l3.length c3] 46))
 have HGT := Aside0.mk (Nat.lt_trans hTr HR.out.lt)
 replace HO2 := Aside0.mk (Kd.R_below HO2.out hbL)
 replace HO3 := Aside0.mk (Kd.R_below HO3.out hbL)
 replace HK := Aside0.mk (HK.out.below hbL)
 have hTc := blk_lt HC.out
 replace HC := Aside0.mk (blk_below HC.out hbL)
 replace HY := Aside0.mk (blk_below HY.out hbL)
 have hrc : rb < wc.heap.size := HR.out.lt
 replace HR := Aside0.mk (HR.out.below hbL)
 generalize hW4 : wc.alloc (.cells #[.slice B2 l2.length c2, .slice B3 l3.length c3] 46) = W4 at *
 clear hW4 hbL
 obtain ⟨g, hg⟩ : ∃ g, g = wc.heap.size := ⟨_, rfl⟩
 rw [← hg] at HG HGT hrc ⊢
 clear hg hTc
 have HX := Aside0.mk (show T < W.heap.size by omega)
 have HB1 := HTL
 go_upto_if 18 with (go_at_call 69; ((with_reducible refine (spec_pick hS.out HR.out (by omega) 30 (by omega) (by omega)).mono ?_); rintro e w' ⟨t, rfl, t0, t1, hr, hg⟩; replace HC := Aside0.mk (blk_grown HC.out hg (by intro e; have := Option.some.inj e; omega)); replace HY := Aside0.mk (blk_grown HY.out hg (by intro e; have := Option.some.inj e; omega)); replace HG := Aside0.mk (blk_grown HG.out hg (by intro e; have := Option.some.inj e; omega)); replace HK := Aside0.mk (HK.out.pick hg hrW); replace HO2 := Aside0.mk (R_pick HO2.out hg (fun q hq => hq)); replace HO3 := Aside0.mk (R_pick HO3.out hg (fun q hq => hq)); replace HR := Aside0.mk hr; clear hr hg))
 by_cases ht0 : t = 0
 ·have htb : (t == 0) = true := by rw [ht0]; rfl
  have HT := Aside0.mk ht0
  clear ht0
  have y0 := blk_cell HY.out 0
  have y1 := blk_cell HY.out 1
  have y2 := blk_cell HY.out 2
  have z0 := blk_cell HC.out 0
  have z1 := blk_cell HC.out 1
  have z2 := blk_cell HC.out 2
  have zf0 := blk_fz HC.out 0
  have zf1 := blk_fz HC.out 1
  have zf2 := blk_fz HC.out 2
  go_wp2
  have HQ := Aside0.mk (draw_fin HW0.out HC.out HTE.out HR.out HX.out HF1.out HK.out HO2.out HO3.out HG.out HB1.out HB2.out HB3.out HGT.out (.int .i64 x1.f0) (.int .i64 x1.f1) (.slice A1 x1.f2.length c1))
  refine bodyPost_ret (results_ct rfl _ _ T 62 #[.int .i64 x1.f0, .int .i64 x1.f1, .slice A1 x1.f2.length c1] (0, 0) _ rfl HQ.out.1 Try.underlying62 rfl (by kernel_rfl)) rfl ?_
  exact ⟨x1, _, _, _, _, rfl, HQ.out.2.1, HQ.out.2.2.1.2, HQ.out.2.2.2⟩
 ·have htb : (t == 0) = false := by simp [ht0]
  have y0 := blk_cell HY.out 0
  have y1 := blk_cell HY.out 1
  have y2 := blk_cell HY.out 2
  have z0 := blk_cell HC.out 0
  have z1 := blk_cell HC.out 1
  have z2 := blk_cell HC.out 2
  have zf0 := blk_fz HC.out 0
  have zf1 := blk_fz HC.out 1
  have zf2 := blk_fz HC.out 2
  go_wp2
  have HQ := Aside0.mk (draw_fin HW0.out HC.out HTE.out HR.out HX.out HF1.out HK.out HO2.out HO3.out HG.out HB1.out HB2.out HB3.out HGT.out (.int .i64 x1.f0) (.int .i64 x1.f1) (.slice A1 x1.f2.length c1))
  refine bodyPost_ret (results_ct rfl _ _ T 62 #[.int .i64 x1.f0, .int .i64 x1.f1, .slice A1 x1.f2.length c1] (0, 0) _ rfl HQ.out.1 Try.underlying62 rfl (by kernel_rfl)) rfl ?_
  exact ⟨x1, _, _, _, _, rfl, HQ.out.2.1, HQ.out.2.2.1.1, HQ.out.2.2.2⟩
end Go.Proofs.Ytkdendlgaaimbaa.X
