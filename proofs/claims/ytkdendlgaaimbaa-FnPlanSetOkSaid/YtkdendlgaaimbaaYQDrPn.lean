/- Conditions: none. -/
import Derived.Test.YtkdendlgaaimbaaYQPnK
import Derived.Test.YtkdendlgaaimbaaYQSb
import Derived.Test.YtkdendlgaaimbaaYQOpPn
namespace Go.Proofs.Ytkdendlgaaimbaa.X
open Go.RowKit Go.Proofs.YtkdendlgaaimbaaW.PrintWords
set_option linter.unusedVariables false
set_option linter.unusedSimpArgs false
def PnF (base : Nat) (W : World) (v : Value) (l : List Pn) : Prop := base ≤ W.heap.size ∧ ∀ W' : World, (∀ k, base ≤ k → k < W.heap.size → W'.heap[k]? = W.heap[k]?) → Sl kPn W' v l
theorem PnF.sl {base : Nat} {W : World} {v : Value} {l : List Pn} (h : PnF base W v l) : Sl kPn W v l := h.2 W (fun _ _ _ => rfl)
theorem PnF.step {base rb : Nat} {W W1 : World} {v : Value} {l : List Pn} (h : PnF base W v l) (hg : W.grownBy W1 (some rb)) (hb : rb < base) : PnF base W1 v l :=
 ⟨Nat.le_trans h.1 hg.size, fun W' hW => h.2 W' (fun k h0 h1 => (hW k h0 (Nat.lt_of_lt_of_le h1 hg.size)).trans (hg.block k h1 (fun e => by have := Option.some.inj e; omega)))⟩
theorem PnF.lower {base base' : Nat} {W : World} {v : Value} {l : List Pn} (h : PnF base W v l) (hb : base' ≤ base) : PnF base' W v l :=
 ⟨Nat.le_trans hb h.1, fun W' hW => h.2 W' (fun k h0 h1 => hW k (Nat.le_trans hb h0) h1)⟩
theorem PnF.set {base T : Nat} {W : World} {v : Value} {l : List Pn} (h : PnF base W v l) (hT : T < base) (o : Nat) (u : Value) : PnF base (W.setCell ⟨T, o, none⟩ u) v l :=
 ⟨by simpa using h.1, fun W' hW => h.2 W' (fun k h0 h1 => (hW k h0 (by simpa using h1)).trans (Below.heap_setCell _ _ _ _ (by simp only; omega)))⟩
theorem PnF.below {base : Nat} {W W1 : World} {v : Value} {l : List Pn} (h : PnF base W v l) (hb : Below W.heap.size W W1) : PnF base W1 v l :=
 ⟨Nat.le_trans h.1 hb.size, fun W' hW => h.2 W' (fun k h0 h1 => (hW k h0 (Nat.lt_of_lt_of_le h1 hb.size)).trans (hb.block k h1))⟩
theorem PnF.nil {base : Nat} {W : World} (hb : base ≤ W.heap.size) : PnF base W (.slice none 0 0) [] := ⟨hb, fun W' _ => ⟨none, 0, rfl, Nat.le_refl _, rfl, by simp, fun h => by simp at h⟩⟩
theorem PnF.one {base g : Nat} {W : World} {x : Pn} {A : Option Addr} {c : Nat} {ty : TypeId} (h : PnF base W (.slice A x.f2.length c) x.f2) (hg : base ≤ g) (hc : W.heap[g]? = some (.cells #[.int .i64 x.f0, .int .i64 x.f1, .slice A x.f2.length c] ty (0, 0))) : PnF base W (.slice (some ⟨g, 0, none⟩) 1 1) [x] := by
 refine ⟨h.1, fun W' hW => ?_⟩
 obtain ⟨A', c', e, h1, h2⟩ := h.2 W' hW
 cases e
 have hb := (hW g hg (blk_lt hc)).trans hc
 refine ⟨_, _, rfl, Nat.le_refl _, rfl, by simp, fun _ => ⟨_, rfl, fun j p hj => ?_⟩⟩
 match j, hj with
 | 0, hj =>
  have : x = p := by simpa using hj
  subst this
  refine ⟨_, rfl, pnK h1 h2, fun i u hu => ?_⟩
  match i, hu with
  | 0, hu => cases hu; exact blk_cell hb 0
  | 1, hu => cases hu; exact blk_cell hb 1
  | 2, hu => cases hu; exact blk_cell hb 2
 | j + 1, hj => simp at hj
theorem PnF.two {base g : Nat} {W : World} {x y : Pn} {A B : Option Addr} {c d : Nat} {ty : TypeId} (h : PnF base W (.slice A x.f2.length c) x.f2) (h2 : PnF base W (.slice B y.f2.length d) y.f2) (hg : base ≤ g) (hc : W.heap[g]? = some (.cells #[.int .i64 x.f0, .int .i64 x.f1, .slice A x.f2.length c, .int .i64 y.f0, .int .i64 y.f1, .slice B y.f2.length d] ty (0, 0))) : PnF base W (.slice (some ⟨g, 0, none⟩) 2 2) [x, y] := by
 refine ⟨h.1, fun W' hW => ?_⟩
 obtain ⟨A', c', e, h1, g1⟩ := h.2 W' hW
 cases e
 obtain ⟨A', c', e, h3, g3⟩ := h2.2 W' hW
 cases e
 have hb := (hW g hg (blk_lt hc)).trans hc
 refine ⟨_, _, rfl, Nat.le_refl _, rfl, by simp, fun _ => ⟨_, rfl, fun j p hj => ?_⟩⟩
 match j, hj with
 | 0, hj =>
  have : x = p := by simpa using hj
  subst this
  refine ⟨_, rfl, pnK h1 g1, fun i u hu => ?_⟩
  match i, hu with
  | 0, hu => cases hu; exact blk_cell hb 0
  | 1, hu => cases hu; exact blk_cell hb 1
  | 2, hu => cases hu; exact blk_cell hb 2
 | 1, hj =>
  have : y = p := by simpa using hj
  subst this
  refine ⟨_, rfl, pnK h3 g3, fun i u hu => ?_⟩
  match i, hu with
  | 0, hu => cases hu; exact blk_cell hb 3
  | 1, hu => cases hu; exact blk_cell hb 4
  | 2, hu => cases hu; exact blk_cell hb 5
 | j + 2, hj => simp at hj
def drp : Nat → Int
 | 0 => 2
 | d + 1 => 3 + 2 * drp d
theorem drp_pos : ∀ d, 2 ≤ drp d
 | 0 => by simp [drp]
 | d + 1 => by have := drp_pos d; rw [drp]; omega
def DrP (w0 : World) (rb : Nat) (s : List Int) (p q : Int) (W : World) (e : Ending) (W' : World) : Prop := ∃ (x : Pn) (A : Option Addr) (c : Nat), e = .returned (.agg #[.int .i64 x.f0, .int .i64 x.f1, .slice A x.f2.length c]) ∧ (0 ≤ x.f1 ∧ x.f1 ≤ 10) ∧ PnF W.heap.size W' (.slice A x.f2.length c) x.f2 ∧ Adv w0 rb s p q W W'
theorem plan_fin {w0 W w1 : World} {rb T : Nat} {s : List Int} {p : Int} (HR : Rd w0 rb s p w1) (HV : W.grownBy w1 (some rb)) (hC : w1.heap[T]? = some (.cells #[.int .i64 0, .int .i64 0, .slice none 0 0] 62 (0, 0))) (hT : T = W.heap.size) (hrT : rb < T) (u0 u1 u2 : Value) :
  (((w1.setCell ⟨T, 0, none⟩ u0).setCell ⟨T, 1, none⟩ u1).setCell ⟨T, 2, none⟩ u2).heap[T]? = some (.cells #[u0, u1, u2] 62 (0, 0)) ∧ Rd w0 rb s p (((w1.setCell ⟨T, 0, none⟩ u0).setCell ⟨T, 1, none⟩ u1).setCell ⟨T, 2, none⟩ u2) ∧ W.grownBy (((w1.setCell ⟨T, 0, none⟩ u0).setCell ⟨T, 1, none⟩ u1).setCell ⟨T, 2, none⟩ u2) (some rb) ∧ ∀ v l, PnF (T + 1) w1 v l → PnF W.heap.size (((w1.setCell ⟨T, 0, none⟩ u0).setCell ⟨T, 1, none⟩ u1).setCell ⟨T, 2, none⟩ u2) v l := by
 have hne : rb ≠ T := by omega
 have hge := HR.ge
 have hg : w0.heap.size ≤ T := by omega
 refine ⟨blk3 hC u0 u1 u2, ((HR.far hne hg u0).far hne hg u1).far hne hg u2, set_grown _ _ _ (by rw [hT]; exact Nat.le_refl _) (set_grown _ _ _ (by rw [hT]; exact Nat.le_refl _) (set_grown _ _ _ (by rw [hT]; exact Nat.le_refl _) HV)), fun v l h => ?_⟩
 rw [← hT]
 exact ((((h.set (Nat.lt_succ_self T) 0 u0).set (Nat.lt_succ_self T) 1 u1).set (Nat.lt_succ_self T) 2 u2)).lower (Nat.le_succ T)
set_option maxRecDepth 100000 in
set_option maxHeartbeats 4000000 in
theorem spec_l71Plan_d {w0 : World} {rb : Nat} {s : List Int} (hS : Aside0 (RS s)) : ∀ (d : Nat), drp d ≤ 1000 → ∀ (W : World) (p : Int), Rd w0 rb s p W → p + drp d ≤ 400000 → Calls Try.prog 145 #[.pointer (some ⟨rb, 0, none⟩), .int .i64 d] W (DrP w0 rb s p (drp d) W) := by
 intro d
 induction d with
 | zero =>
  intro hd W p h hp
  have hdd : drp 0 = 2 := rfl
  rw [hdd] at hp ⊢
  clear hdd hd
  have hbl := h.lt
  have hge := h.ge
  have hbs := h.bel.size
  have hnn := h.nn
  obtain ⟨T, hT⟩ : ∃ T, T = W.heap.size := ⟨_, rfl⟩
  have hrT : rb < T := by omega
  have HR := Aside0.mk (h.below (below_alloc (Below.refl _ _) (.cells #[.int .i64 0, .int .i64 0, .slice none 0 0] 62)))
  have HV := Aside0.mk (alloc_grown W (.cells #[.int .i64 0, .int .i64 0, .slice none 0 0] 62) (some rb))
  have HC := Aside0.mk (blk_new W (.cells #[.int .i64 0, .int .i64 0, .slice none 0 0] 62))
  rw [← hT] at HC
  have HTE := Aside0.mk hT
  clear h
  go_enter Try.func145, Try.ntmps145
  go_upto_region 1 with fail
  rw [← hT]
  clear hT
  go_wp2_with (go_at_call 69; ((with_reducible refine (spec_pick hS.out HR.out (by omega) 2 (by omega) (by omega)).mono ?_); rintro e w' ⟨j, rfl, j0, j1, hr, hg⟩; replace HC := Aside0.mk (blk_grown HC.out hg (by intro e; have := Option.some.inj e; omega)); replace HV := Aside0.mk (gthen HV.out hg); replace HR := Aside0.mk hr; clear hr hg; have z0 := blk_cell HC.out 0; have zf0 := blk_fz HC.out 0; have z1 := blk_cell HC.out 1; have zf1 := blk_fz HC.out 1; have z2 := blk_cell HC.out 2; have zf2 := blk_fz HC.out 2))
  have HQ := Aside0.mk (plan_fin HR.out HV.out HC.out HTE.out hrT (.int .i64 1) (.int .i64 j) (.slice none 0 0))
  refine ret_cell (p := 4) (g := T) (cs := #[.int .i64 1, .int .i64 j, .slice none 0 0]) rfl rfl rfl HQ.out.1 Try.underlying62 rfl (by kernel_rfl) ?_
  exact ⟨⟨1, j, []⟩, none, 0, rfl, ⟨by dsimp only; omega, by dsimp only; omega⟩, HQ.out.2.2.2 _ _ (PnF.nil (blk_lt HC.out)), Adv.mk' (by omega) (by omega) HQ.out.2.1 HQ.out.2.2.1⟩
 | succ d ih =>
  intro hd W p h hp
  have hdd : drp (d + 1) = 3 + 2 * drp d := by rw [drp]
  have hd2 := drp_pos d
  have ih := ih (by omega)
  rw [hdd] at hp ⊢
  obtain ⟨m, hm⟩ : ∃ m : Int, m = ((d + 1 : Nat) : Int) := ⟨_, rfl⟩
  have hmd : ((d : Nat) : Int) = m - 1 := by omega
  have hm0 : 1 ≤ m := by omega
  have hm9 : m ≤ 1000000 := by
   have : ∀ n : Nat, (n : Int) ≤ drp n := fun n => by
    induction n with
    | zero => simp [drp]
    | succ n ihn => rw [drp]; omega
   have := this (d + 1)
   omega
  rw [← hm]
  rw [hmd] at ih
  have HI := Aside0.mk ih
  clear ih hm hmd
  have hD : drp d ≤ 1000 := by omega
  clear hdd hd
  generalize drp d = D at *
  have hbl := h.lt
  have hge := h.ge
  have hbs := h.bel.size
  have hnn := h.nn
  obtain ⟨T, hT⟩ : ∃ T, T = W.heap.size := ⟨_, rfl⟩
  have hrT : rb < T := by omega
  have HR := Aside0.mk (h.below (below_alloc (Below.refl _ _) (.cells #[.int .i64 0, .int .i64 0, .slice none 0 0] 62)))
  have HV := Aside0.mk (alloc_grown W (.cells #[.int .i64 0, .int .i64 0, .slice none 0 0] 62) (some rb))
  have HC := Aside0.mk (blk_new W (.cells #[.int .i64 0, .int .i64 0, .slice none 0 0] 62))
  rw [← hT] at HC
  have HTE := Aside0.mk hT
  clear h
  go_enter Try.func145, Try.ntmps145
  go_upto_region 1 with fail
  rw [← hT]
  clear hT
  by_cases hm2 : m < 2
  ·go_wp2_with (go_at_call 69; ((with_reducible refine (spec_pick hS.out HR.out (by omega) 2 (by omega) (by omega)).mono ?_); rintro e w' ⟨j, rfl, j0, j1, hr, hg⟩; replace HC := Aside0.mk (blk_grown HC.out hg (by intro e; have := Option.some.inj e; omega)); replace HV := Aside0.mk (gthen HV.out hg); replace HR := Aside0.mk hr; clear hr hg; have z0 := blk_cell HC.out 0; have zf0 := blk_fz HC.out 0; have z1 := blk_cell HC.out 1; have zf1 := blk_fz HC.out 1; have z2 := blk_cell HC.out 2; have zf2 := blk_fz HC.out 2))
   have HQ := Aside0.mk (plan_fin HR.out HV.out HC.out HTE.out hrT (.int .i64 1) (.int .i64 j) (.slice none 0 0))
   refine ret_cell (p := 4) (g := T) (cs := #[.int .i64 1, .int .i64 j, .slice none 0 0]) rfl rfl rfl HQ.out.1 Try.underlying62 rfl (by kernel_rfl) ?_
   exact ⟨⟨1, j, []⟩, none, 0, rfl, ⟨by dsimp only; omega, by dsimp only; omega⟩, HQ.out.2.2.2 _ _ (PnF.nil (blk_lt HC.out)), Adv.mk' (by omega) (by omega) HQ.out.2.1 HQ.out.2.2.1⟩
  ·go_upto_if 11 with (go_at_call 69; ((with_reducible refine (spec_pick hS.out HR.out (by omega) 6 (by omega) (by omega)).mono ?_); rintro e w' ⟨t, rfl, t0, t1, hr, hg⟩; replace HC := Aside0.mk (blk_grown HC.out hg (by intro e; have := Option.some.inj e; omega)); replace HV := Aside0.mk (gthen HV.out hg); replace HR := Aside0.mk hr; clear hr hg))
   by_cases ht0 : t = 0
   ·have htb : (t == 0) = true := by rw [ht0]; rfl
    have HT := Aside0.mk ht0
    clear ht0
    go_wp2_with (go_at_call 69; ((with_reducible refine (spec_pick hS.out HR.out (by omega) 2 (by omega) (by omega)).mono ?_); rintro e w' ⟨j, rfl, j0, j1, hr, hg⟩; replace HC := Aside0.mk (blk_grown HC.out hg (by intro e; have := Option.some.inj e; omega)); replace HV := Aside0.mk (gthen HV.out hg); replace HR := Aside0.mk hr; clear hr hg; have z0 := blk_cell HC.out 0; have zf0 := blk_fz HC.out 0; have z1 := blk_cell HC.out 1; have zf1 := blk_fz HC.out 1; have z2 := blk_cell HC.out 2; have zf2 := blk_fz HC.out 2))
    have HQ := Aside0.mk (plan_fin HR.out HV.out HC.out HTE.out hrT (.int .i64 1) (.int .i64 j) (.slice none 0 0))
    refine ret_cell (p := 4) (g := T) (cs := #[.int .i64 1, .int .i64 j, .slice none 0 0]) rfl rfl rfl HQ.out.1 Try.underlying62 rfl (by kernel_rfl) ?_
    exact ⟨⟨1, j, []⟩, none, 0, rfl, ⟨by dsimp only; omega, by dsimp only; omega⟩, HQ.out.2.2.2 _ _ (PnF.nil (blk_lt HC.out)), Adv.mk' (by omega) (by omega) HQ.out.2.1 HQ.out.2.2.1⟩
   ·have htb : (t == 0) = false := by simp [ht0]
    go_upto_region 4 with (go_at_call 69; ((with_reducible refine (spec_pick hS.out HR.out (by omega) 6 (by omega) (by omega)).mono ?_); rintro e w' ⟨q, rfl, q0, q1, hr, hg⟩; replace HC := Aside0.mk (blk_grown HC.out hg (by intro e; have := Option.some.inj e; omega)); replace HV := Aside0.mk (gthen HV.out hg); replace HR := Aside0.mk hr; clear hr hg))
    rcases (show q = 0 ∨ q = 1 ∨ q = 2 ∨ q = 3 ∨ (q = 4 ∨ q = 5) by omega) with rfl | rfl | rfl | rfl | hq
    ·go_wp2_with (first
      | (go_at_call 69; ((with_reducible refine (spec_pick hS.out HR.out (by omega) 7 (by omega) (by omega)).mono ?_); rintro e w' ⟨k, rfl, k0, k1, hr, hg⟩; replace HC := Aside0.mk (blk_grown HC.out hg (by intro e; have := Option.some.inj e; omega)); replace HV := Aside0.mk (gthen HV.out hg); replace HR := Aside0.mk hr; clear hr hg))
      | (go_at_call 145; ((with_reducible refine (HI.out _ _ HR.out (by omega)).mono ?_); rintro e w1 ⟨x1, A1, c1, rfl, hn1, hf, p1, g1, f1, hr, hg⟩; have HF1 := Aside0.mk (PnF.lower hf (blk_lt HC.out)); have HN1 := Aside0.mk hn1; replace HC := Aside0.mk (blk_grown HC.out hg (by intro e; have := Option.some.inj e; omega)); replace HV := Aside0.mk (gthen HV.out hg); replace HR := Aside0.mk hr; clear hr hg hf hn1; have z0 := blk_cell (blk_alloc HC.out (.cells #[.int .i64 x1.f0, .int .i64 x1.f1, .slice A1 x1.f2.length c1] 62)) 0; have zf0 := blk_fz (blk_alloc HC.out (.cells #[.int .i64 x1.f0, .int .i64 x1.f1, .slice A1 x1.f2.length c1] 62)) 0; have z1 := blk_cell (blk_alloc HC.out (.cells #[.int .i64 x1.f0, .int .i64 x1.f1, .slice A1 x1.f2.length c1] 62)) 1; have zf1 := blk_fz (blk_alloc HC.out (.cells #[.int .i64 x1.f0, .int .i64 x1.f1, .slice A1 x1.f2.length c1] 62)) 1; have z2 := blk_cell (blk_alloc HC.out (.cells #[.int .i64 x1.f0, .int .i64 x1.f1, .slice A1 x1.f2.length c1] 62)) 2; have zf2 := blk_fz (blk_alloc HC.out (.cells #[.int .i64 x1.f0, .int .i64 x1.f1, .slice A1 x1.f2.length c1] 62)) 2)))
     have HF1' := PnF.below HF1.out (below_alloc (Below.refl w1.heap.size w1) (.cells #[.int .i64 x1.f0, .int .i64 x1.f1, .slice A1 x1.f2.length c1] 62))
     have HQ := Aside0.mk (plan_fin (HR.out.alloc (.cells #[.int .i64 x1.f0, .int .i64 x1.f1, .slice A1 x1.f2.length c1] 62)) (gthen HV.out (alloc_grown w1 (.cells #[.int .i64 x1.f0, .int .i64 x1.f1, .slice A1 x1.f2.length c1] 62) (some rb))) (blk_alloc HC.out (.cells #[.int .i64 x1.f0, .int .i64 x1.f1, .slice A1 x1.f2.length c1] 62)) HTE.out hrT (.int .i64 2) (.int .i64 (1 + k)) (.slice (some ⟨w1.heap.size, 0, none⟩) 1 1))
     refine ret_cell (p := 4) (g := T) (cs := #[.int .i64 2, .int .i64 (1 + k), .slice (some ⟨w1.heap.size, 0, none⟩) 1 1]) rfl rfl rfl HQ.out.1 Try.underlying62 rfl (by kernel_rfl) ?_
     exact ⟨⟨2, (1 + k), [x1]⟩, _, _, rfl, ⟨by dsimp only; omega, by dsimp only; omega⟩, HQ.out.2.2.2 _ _ (PnF.one HF1' (blk_lt HC.out) (blk_new w1 _)), Adv.mk' (by omega) (by omega) HQ.out.2.1 HQ.out.2.2.1⟩
    ·go_wp2_with (first
      | (go_at_call 145; ((with_reducible refine (HI.out _ _ HR.out (by omega)).mono ?_); rintro e w2 ⟨x2, A2, c2, rfl, hn2, hf, p2, g2, f2, hr, hg⟩; have HF2 := Aside0.mk (PnF.lower hf (blk_lt HC.out)); have HN2 := Aside0.mk hn2; replace HF1 := Aside0.mk (PnF.step HF1.out hg (Nat.lt_succ_of_lt hrT)); replace HC := Aside0.mk (blk_grown HC.out hg (by intro e; have := Option.some.inj e; omega)); replace HV := Aside0.mk (gthen HV.out hg); replace HR := Aside0.mk hr; clear hr hg hf hn2; have z0 := blk_cell (blk_alloc HC.out (.cells #[.int .i64 x1.f0, .int .i64 x1.f1, .slice A1 x1.f2.length c1, .int .i64 x2.f0, .int .i64 x2.f1, .slice A2 x2.f2.length c2] 62)) 0; have zf0 := blk_fz (blk_alloc HC.out (.cells #[.int .i64 x1.f0, .int .i64 x1.f1, .slice A1 x1.f2.length c1, .int .i64 x2.f0, .int .i64 x2.f1, .slice A2 x2.f2.length c2] 62)) 0; have z1 := blk_cell (blk_alloc HC.out (.cells #[.int .i64 x1.f0, .int .i64 x1.f1, .slice A1 x1.f2.length c1, .int .i64 x2.f0, .int .i64 x2.f1, .slice A2 x2.f2.length c2] 62)) 1; have zf1 := blk_fz (blk_alloc HC.out (.cells #[.int .i64 x1.f0, .int .i64 x1.f1, .slice A1 x1.f2.length c1, .int .i64 x2.f0, .int .i64 x2.f1, .slice A2 x2.f2.length c2] 62)) 1; have z2 := blk_cell (blk_alloc HC.out (.cells #[.int .i64 x1.f0, .int .i64 x1.f1, .slice A1 x1.f2.length c1, .int .i64 x2.f0, .int .i64 x2.f1, .slice A2 x2.f2.length c2] 62)) 2; have zf2 := blk_fz (blk_alloc HC.out (.cells #[.int .i64 x1.f0, .int .i64 x1.f1, .slice A1 x1.f2.length c1, .int .i64 x2.f0, .int .i64 x2.f1, .slice A2 x2.f2.length c2] 62)) 2))
      | (go_at_call 145; ((with_reducible refine (HI.out _ _ HR.out (by omega)).mono ?_); rintro e w1 ⟨x1, A1, c1, rfl, hn1, hf, p1, g1, f1, hr, hg⟩; have HF1 := Aside0.mk (PnF.lower hf (blk_lt HC.out)); have HN1 := Aside0.mk hn1; replace HC := Aside0.mk (blk_grown HC.out hg (by intro e; have := Option.some.inj e; omega)); replace HV := Aside0.mk (gthen HV.out hg); replace HR := Aside0.mk hr; clear hr hg hf hn1)))
     have HF1' := PnF.below HF1.out (below_alloc (Below.refl w2.heap.size w2) (.cells #[.int .i64 x1.f0, .int .i64 x1.f1, .slice A1 x1.f2.length c1, .int .i64 x2.f0, .int .i64 x2.f1, .slice A2 x2.f2.length c2] 62))
     have HF2' := PnF.below HF2.out (below_alloc (Below.refl w2.heap.size w2) (.cells #[.int .i64 x1.f0, .int .i64 x1.f1, .slice A1 x1.f2.length c1, .int .i64 x2.f0, .int .i64 x2.f1, .slice A2 x2.f2.length c2] 62))
     have HQ := Aside0.mk (plan_fin (HR.out.alloc (.cells #[.int .i64 x1.f0, .int .i64 x1.f1, .slice A1 x1.f2.length c1, .int .i64 x2.f0, .int .i64 x2.f1, .slice A2 x2.f2.length c2] 62)) (gthen HV.out (alloc_grown w2 (.cells #[.int .i64 x1.f0, .int .i64 x1.f1, .slice A1 x1.f2.length c1, .int .i64 x2.f0, .int .i64 x2.f1, .slice A2 x2.f2.length c2] 62) (some rb))) (blk_alloc HC.out (.cells #[.int .i64 x1.f0, .int .i64 x1.f1, .slice A1 x1.f2.length c1, .int .i64 x2.f0, .int .i64 x2.f1, .slice A2 x2.f2.length c2] 62)) HTE.out hrT (.int .i64 3) (.int .i64 0) (.slice (some ⟨w2.heap.size, 0, none⟩) 2 2))
     refine ret_cell (p := 4) (g := T) (cs := #[.int .i64 3, .int .i64 0, .slice (some ⟨w2.heap.size, 0, none⟩) 2 2]) rfl rfl rfl HQ.out.1 Try.underlying62 rfl (by kernel_rfl) ?_
     exact ⟨⟨3, 0, [x1, x2]⟩, _, _, rfl, ⟨by dsimp only; omega, by dsimp only; omega⟩, HQ.out.2.2.2 _ _ (PnF.two HF1' HF2' (blk_lt HC.out) (blk_new w2 _)), Adv.mk' (by omega) (by omega) HQ.out.2.1 HQ.out.2.2.1⟩
    ·go_wp2_with (first
      | (go_at_call 145; ((with_reducible refine (HI.out _ _ HR.out (by omega)).mono ?_); rintro e w1 ⟨x1, A1, c1, rfl, hn1, hf, p1, g1, f1, hr, hg⟩; have HF1 := Aside0.mk (PnF.lower hf (blk_lt HC.out)); have HN1 := Aside0.mk hn1; replace HC := Aside0.mk (blk_grown HC.out hg (by intro e; have := Option.some.inj e; omega)); replace HV := Aside0.mk (gthen HV.out hg); replace HR := Aside0.mk hr; clear hr hg hf hn1; have z0 := blk_cell (blk_alloc HC.out (.cells #[.int .i64 x1.f0, .int .i64 x1.f1, .slice A1 x1.f2.length c1] 62)) 0; have zf0 := blk_fz (blk_alloc HC.out (.cells #[.int .i64 x1.f0, .int .i64 x1.f1, .slice A1 x1.f2.length c1] 62)) 0; have z1 := blk_cell (blk_alloc HC.out (.cells #[.int .i64 x1.f0, .int .i64 x1.f1, .slice A1 x1.f2.length c1] 62)) 1; have zf1 := blk_fz (blk_alloc HC.out (.cells #[.int .i64 x1.f0, .int .i64 x1.f1, .slice A1 x1.f2.length c1] 62)) 1; have z2 := blk_cell (blk_alloc HC.out (.cells #[.int .i64 x1.f0, .int .i64 x1.f1, .slice A1 x1.f2.length c1] 62)) 2; have zf2 := blk_fz (blk_alloc HC.out (.cells #[.int .i64 x1.f0, .int .i64 x1.f1, .slice A1 x1.f2.length c1] 62)) 2)))
     have HF1' := PnF.below HF1.out (below_alloc (Below.refl w1.heap.size w1) (.cells #[.int .i64 x1.f0, .int .i64 x1.f1, .slice A1 x1.f2.length c1] 62))
     have HQ := Aside0.mk (plan_fin (HR.out.alloc (.cells #[.int .i64 x1.f0, .int .i64 x1.f1, .slice A1 x1.f2.length c1] 62)) (gthen HV.out (alloc_grown w1 (.cells #[.int .i64 x1.f0, .int .i64 x1.f1, .slice A1 x1.f2.length c1] 62) (some rb))) (blk_alloc HC.out (.cells #[.int .i64 x1.f0, .int .i64 x1.f1, .slice A1 x1.f2.length c1] 62)) HTE.out hrT (.int .i64 4) (.int .i64 0) (.slice (some ⟨w1.heap.size, 0, none⟩) 1 1))
     refine ret_cell (p := 4) (g := T) (cs := #[.int .i64 4, .int .i64 0, .slice (some ⟨w1.heap.size, 0, none⟩) 1 1]) rfl rfl rfl HQ.out.1 Try.underlying62 rfl (by kernel_rfl) ?_
     exact ⟨⟨4, 0, [x1]⟩, _, _, rfl, ⟨by dsimp only; omega, by dsimp only; omega⟩, HQ.out.2.2.2 _ _ (PnF.one HF1' (blk_lt HC.out) (blk_new w1 _)), Adv.mk' (by omega) (by omega) HQ.out.2.1 HQ.out.2.2.1⟩
    ·go_wp2_with (first
      | (go_at_call 145; ((with_reducible refine (HI.out _ _ HR.out (by omega)).mono ?_); rintro e w2 ⟨x2, A2, c2, rfl, hn2, hf, p2, g2, f2, hr, hg⟩; have HF2 := Aside0.mk (PnF.lower hf (blk_lt HC.out)); have HN2 := Aside0.mk hn2; replace HF1 := Aside0.mk (PnF.step HF1.out hg (Nat.lt_succ_of_lt hrT)); replace HC := Aside0.mk (blk_grown HC.out hg (by intro e; have := Option.some.inj e; omega)); replace HV := Aside0.mk (gthen HV.out hg); replace HR := Aside0.mk hr; clear hr hg hf hn2; have z0 := blk_cell (blk_alloc HC.out (.cells #[.int .i64 x1.f0, .int .i64 x1.f1, .slice A1 x1.f2.length c1, .int .i64 x2.f0, .int .i64 x2.f1, .slice A2 x2.f2.length c2] 62)) 0; have zf0 := blk_fz (blk_alloc HC.out (.cells #[.int .i64 x1.f0, .int .i64 x1.f1, .slice A1 x1.f2.length c1, .int .i64 x2.f0, .int .i64 x2.f1, .slice A2 x2.f2.length c2] 62)) 0; have z1 := blk_cell (blk_alloc HC.out (.cells #[.int .i64 x1.f0, .int .i64 x1.f1, .slice A1 x1.f2.length c1, .int .i64 x2.f0, .int .i64 x2.f1, .slice A2 x2.f2.length c2] 62)) 1; have zf1 := blk_fz (blk_alloc HC.out (.cells #[.int .i64 x1.f0, .int .i64 x1.f1, .slice A1 x1.f2.length c1, .int .i64 x2.f0, .int .i64 x2.f1, .slice A2 x2.f2.length c2] 62)) 1; have z2 := blk_cell (blk_alloc HC.out (.cells #[.int .i64 x1.f0, .int .i64 x1.f1, .slice A1 x1.f2.length c1, .int .i64 x2.f0, .int .i64 x2.f1, .slice A2 x2.f2.length c2] 62)) 2; have zf2 := blk_fz (blk_alloc HC.out (.cells #[.int .i64 x1.f0, .int .i64 x1.f1, .slice A1 x1.f2.length c1, .int .i64 x2.f0, .int .i64 x2.f1, .slice A2 x2.f2.length c2] 62)) 2))
      | (go_at_call 145; ((with_reducible refine (HI.out _ _ HR.out (by omega)).mono ?_); rintro e w1 ⟨x1, A1, c1, rfl, hn1, hf, p1, g1, f1, hr, hg⟩; have HF1 := Aside0.mk (PnF.lower hf (blk_lt HC.out)); have HN1 := Aside0.mk hn1; replace HC := Aside0.mk (blk_grown HC.out hg (by intro e; have := Option.some.inj e; omega)); replace HV := Aside0.mk (gthen HV.out hg); replace HR := Aside0.mk hr; clear hr hg hf hn1)))
     have HF1' := PnF.below HF1.out (below_alloc (Below.refl w2.heap.size w2) (.cells #[.int .i64 x1.f0, .int .i64 x1.f1, .slice A1 x1.f2.length c1, .int .i64 x2.f0, .int .i64 x2.f1, .slice A2 x2.f2.length c2] 62))
     have HF2' := PnF.below HF2.out (below_alloc (Below.refl w2.heap.size w2) (.cells #[.int .i64 x1.f0, .int .i64 x1.f1, .slice A1 x1.f2.length c1, .int .i64 x2.f0, .int .i64 x2.f1, .slice A2 x2.f2.length c2] 62))
     have HQ := Aside0.mk (plan_fin (HR.out.alloc (.cells #[.int .i64 x1.f0, .int .i64 x1.f1, .slice A1 x1.f2.length c1, .int .i64 x2.f0, .int .i64 x2.f1, .slice A2 x2.f2.length c2] 62)) (gthen HV.out (alloc_grown w2 (.cells #[.int .i64 x1.f0, .int .i64 x1.f1, .slice A1 x1.f2.length c1, .int .i64 x2.f0, .int .i64 x2.f1, .slice A2 x2.f2.length c2] 62) (some rb))) (blk_alloc HC.out (.cells #[.int .i64 x1.f0, .int .i64 x1.f1, .slice A1 x1.f2.length c1, .int .i64 x2.f0, .int .i64 x2.f1, .slice A2 x2.f2.length c2] 62)) HTE.out hrT (.int .i64 5) (.int .i64 0) (.slice (some ⟨w2.heap.size, 0, none⟩) 2 2))
     refine ret_cell (p := 4) (g := T) (cs := #[.int .i64 5, .int .i64 0, .slice (some ⟨w2.heap.size, 0, none⟩) 2 2]) rfl rfl rfl HQ.out.1 Try.underlying62 rfl (by kernel_rfl) ?_
     exact ⟨⟨5, 0, [x1, x2]⟩, _, _, rfl, ⟨by dsimp only; omega, by dsimp only; omega⟩, HQ.out.2.2.2 _ _ (PnF.two HF1' HF2' (blk_lt HC.out) (blk_new w2 _)), Adv.mk' (by omega) (by omega) HQ.out.2.1 HQ.out.2.2.1⟩
    ·have z0 : (q == 0) = false := by simp; omega
     have z1 : (q == 1) = false := by simp; omega
     have z2 : (q == 2) = false := by simp; omega
     have z3 : (q == 3) = false := by simp; omega
     go_wp2_with (first
      | (go_at_call 69; ((with_reducible refine (spec_pick hS.out HR.out (by omega) 3 (by omega) (by omega)).mono ?_); rintro e w' ⟨k, rfl, k0, k1, hr, hg⟩; replace HC := Aside0.mk (blk_grown HC.out hg (by intro e; have := Option.some.inj e; omega)); replace HV := Aside0.mk (gthen HV.out hg); replace HR := Aside0.mk hr; clear hr hg))
      | (go_at_call 145; ((with_reducible refine (HI.out _ _ HR.out (by omega)).mono ?_); rintro e w1 ⟨x1, A1, c1, rfl, hn1, hf, p1, g1, f1, hr, hg⟩; have HF1 := Aside0.mk (PnF.lower hf (blk_lt HC.out)); have HN1 := Aside0.mk hn1; replace HC := Aside0.mk (blk_grown HC.out hg (by intro e; have := Option.some.inj e; omega)); replace HV := Aside0.mk (gthen HV.out hg); replace HR := Aside0.mk hr; clear hr hg hf hn1; have z0 := blk_cell (blk_alloc HC.out (.cells #[.int .i64 x1.f0, .int .i64 x1.f1, .slice A1 x1.f2.length c1] 62)) 0; have zf0 := blk_fz (blk_alloc HC.out (.cells #[.int .i64 x1.f0, .int .i64 x1.f1, .slice A1 x1.f2.length c1] 62)) 0; have z1 := blk_cell (blk_alloc HC.out (.cells #[.int .i64 x1.f0, .int .i64 x1.f1, .slice A1 x1.f2.length c1] 62)) 1; have zf1 := blk_fz (blk_alloc HC.out (.cells #[.int .i64 x1.f0, .int .i64 x1.f1, .slice A1 x1.f2.length c1] 62)) 1; have z2 := blk_cell (blk_alloc HC.out (.cells #[.int .i64 x1.f0, .int .i64 x1.f1, .slice A1 x1.f2.length c1] 62)) 2; have zf2 := blk_fz (blk_alloc HC.out (.cells #[.int .i64 x1.f0, .int .i64 x1.f1, .slice A1 x1.f2.length c1] 62)) 2)))
     have HF1' := PnF.below HF1.out (below_alloc (Below.refl w1.heap.size w1) (.cells #[.int .i64 x1.f0, .int .i64 x1.f1, .slice A1 x1.f2.length c1] 62))
     have HQ := Aside0.mk (plan_fin (HR.out.alloc (.cells #[.int .i64 x1.f0, .int .i64 x1.f1, .slice A1 x1.f2.length c1] 62)) (gthen HV.out (alloc_grown w1 (.cells #[.int .i64 x1.f0, .int .i64 x1.f1, .slice A1 x1.f2.length c1] 62) (some rb))) (blk_alloc HC.out (.cells #[.int .i64 x1.f0, .int .i64 x1.f1, .slice A1 x1.f2.length c1] 62)) HTE.out hrT (.int .i64 6) (.int .i64 (1 + k)) (.slice (some ⟨w1.heap.size, 0, none⟩) 1 1))
     refine ret_cell (p := 4) (g := T) (cs := #[.int .i64 6, .int .i64 (1 + k), .slice (some ⟨w1.heap.size, 0, none⟩) 1 1]) rfl rfl rfl HQ.out.1 Try.underlying62 rfl (by kernel_rfl) ?_
     exact ⟨⟨6, (1 + k), [x1]⟩, _, _, rfl, ⟨by dsimp only; omega, by dsimp only; omega⟩, HQ.out.2.2.2 _ _ (PnF.one HF1' (blk_lt HC.out) (blk_new w1 _)), Adv.mk' (by omega) (by omega) HQ.out.2.1 HQ.out.2.2.1⟩
def PnKp (base : Nat) (w1 w : World) : Prop := w1.heap.size ≤ w.heap.size ∧ ∀ k, base ≤ k → k < w1.heap.size → w.heap[k]? = w1.heap[k]?
theorem PnKp.pick {base rb : Nat} {w1 w w2 : World} (h : PnKp base w1 w) (hg : w.grownBy w2 (some rb)) (hb : rb < base) : PnKp base w1 w2 := ⟨Nat.le_trans h.1 hg.size, fun k h0 h1 => (hg.block k (Nat.lt_of_lt_of_le h1 h.1) (fun e => by have := Option.some.inj e; omega)).trans (h.2 k h0 h1)⟩
theorem PnKp.below {base : Nat} {w1 w w2 : World} (h : PnKp base w1 w) (hb : Below w.heap.size w w2) : PnKp base w1 w2 := ⟨Nat.le_trans h.1 hb.size, fun k h0 h1 => (hb.block k (Nat.lt_of_lt_of_le h1 h.1)).trans (h.2 k h0 h1)⟩
theorem PnKp.set {base Y : Nat} {w1 w : World} (h : PnKp base w1 w) (hY : w1.heap.size ≤ Y) (o : Nat) (u : Value) : PnKp base w1 (w.setCell ⟨Y, o, none⟩ u) := ⟨by simpa using h.1, fun k h0 h1 => (Below.heap_setCell _ _ _ _ (by simp only; omega)).trans (h.2 k h0 h1)⟩
theorem PnF.raw {base : Nat} {w1 w : World} {v : Value} {l : List Pn} (h : PnF base w1 v l) (hk : PnKp base w1 w) : PnF base w v l :=
 ⟨Nat.le_trans h.1 hk.1, fun W' hW => h.2 W' (fun k h0 h1 => (hW k h0 (Nat.lt_of_lt_of_le h1 hk.1)).trans (hk.2 k h0 h1))⟩
def DrB (w0 : World) (rb : Nat) (s : List Int) (p q : Int) (W : World) (e : Ending) (W' : World) : Prop := ∃ (x : Pn) (A : Option Addr) (c : Nat), e = .returned (.agg #[.int .i64 x.f0, .int .i64 x.f1, .slice A x.f2.length c]) ∧ PnF W.heap.size W' (.slice A x.f2.length c) x.f2 ∧ Adv w0 rb s p q W W'
set_option maxRecDepth 100000 in
set_option maxHeartbeats 4000000 in
theorem spec_l71Bent {w0 W : World} {rb : Nat} {s : List Int} {p : Int} (hS : Aside0 (RS s)) (h : Rd w0 rb s p W) (hp : p ≤ 1000) : Calls Try.prog 100 #[.pointer (some ⟨rb, 0, none⟩)] W (DrB w0 rb s p 80 W) := by
 have hd4 : drp 4 = 77 := rfl
 have HI := Aside0.mk (fun (W : World) (p : Int) (h : Rd w0 rb s p W) (hp : p ≤ 1000) => by have := spec_l71Plan_d hS 4 (by rw [hd4]; decide) W p h (by rw [hd4]; omega); rw [hd4] at this; exact (show Calls Try.prog 145 #[.pointer (some ⟨rb, 0, none⟩), .int .i64 4] W (DrP w0 rb s p 77 W) from this))
 clear hd4
 have hbl := h.lt
 have hge := h.ge
 have hbs := h.bel.size
 have hnn := h.nn
 obtain ⟨T, hT⟩ : ∃ T, T = W.heap.size := ⟨_, rfl⟩
 have hrT : rb < T := by omega
 have HR := Aside0.mk (h.below (below_alloc (Below.refl _ _) (.cells #[.int .i64 0, .int .i64 0, .slice none 0 0] 62)))
 have HV := Aside0.mk (alloc_grown W (.cells #[.int .i64 0, .int .i64 0, .slice none 0 0] 62) (some rb))
 have HC := Aside0.mk (blk_new W (.cells #[.int .i64 0, .int .i64 0, .slice none 0 0] 62))
 rw [← hT] at HC
 have HTE := Aside0.mk hT
 clear h
 go_enter Try.func100, Try.ntmps100
 go_upto_region 1 with fail
 rw [← hT]
 clear hT
 go_upto_region 2 with (go_at_call 145; ((with_reducible refine (HI.out _ _ HR.out hp).mono ?_); rintro e w1 ⟨x1, A1, c1, rfl, hn1, hf, p1, g1, f1, hr, hg⟩; have HF1 := Aside0.mk (PnF.lower hf (blk_lt HC.out)); have HN1 := Aside0.mk hn1; replace HC := Aside0.mk (blk_grown HC.out hg (by intro e; have := Option.some.inj e; omega)); replace HV := Aside0.mk (gthen HV.out hg); replace HR := Aside0.mk hr; clear hr hg hf hn1))
 have HY := Aside0.mk (blk_new w1 (.cells #[.int .i64 x1.f0, .int .i64 x1.f1, .slice A1 x1.f2.length c1] 62))
 have hb1 := below_alloc (Below.refl w1.heap.size w1) (.cells #[.int .i64 x1.f0, .int .i64 x1.f1, .slice A1 x1.f2.length c1] 62)
 have HK : Aside0 (PnKp (T + 1) w1 (w1.alloc (.cells #[.int .i64 x1.f0, .int .i64 x1.f1, .slice A1 x1.f2.length c1] 62))) := ⟨PnKp.below ⟨Nat.le_refl _, fun _ _ _ => rfl⟩ hb1⟩
 replace HV := Aside0.mk (gthen HV.out (alloc_grown w1 (.cells #[.int .i64 x1.f0, .int .i64 x1.f1, .slice A1 x1.f2.length c1] 62) (some rb)))
 replace HR := Aside0.mk (HR.out.below hb1)
 have hTY := blk_lt HC.out
 replace HC := Aside0.mk (blk_below HC.out hb1)
 generalize hW2 : w1.alloc (.cells #[.int .i64 x1.f0, .int .i64 x1.f1, .slice A1 x1.f2.length c1] 62) = W2 at *
 clear hW2 hb1
 obtain ⟨Y, hY⟩ : ∃ Y, Y = w1.heap.size := ⟨_, rfl⟩
 rw [← hY] at HY hTY ⊢
 have HYL := Aside0.mk (show w1.heap.size ≤ Y by omega)
 clear hY
 have hTYn : T ≠ Y := by omega
 have hWY : W.heap.size ≤ Y := by have := HTE.out; omega
 have hrY : rb ≠ Y := by omega
 have hnum := HN1.out
 go_upto_region 3 with (go_at_call 69; ((with_reducible refine (spec_pick hS.out HR.out (by omega) 24 (by omega) (by omega)).mono ?_); rintro e w' ⟨t, rfl, t0, t1, hr, hg⟩; replace HC := Aside0.mk (blk_grown HC.out hg (by intro e; have := Option.some.inj e; omega)); replace HY := Aside0.mk (blk_grown HY.out hg (by intro e; have := Option.some.inj e; omega)); replace HK := Aside0.mk (HK.out.pick hg (Nat.lt_succ_of_lt hrT)); replace HV := Aside0.mk (gthen HV.out hg); replace HR := Aside0.mk hr; clear hr hg))
 rcases (show t = 0 ∨ t = 1 ∨ t = 2 ∨ t = 3 ∨ 4 ≤ t by omega) with rfl | rfl | rfl | rfl | ht
 ·go_upto_region 11 with (go_at_call 69; ((with_reducible refine (spec_pick hS.out HR.out (by omega) 9 (by omega) (by omega)).mono ?_); rintro e w' ⟨q, rfl, q0, q1, hr, hg⟩; replace HC := Aside0.mk (blk_grown HC.out hg (by intro e; have := Option.some.inj e; omega)); replace HY := Aside0.mk (blk_grown HY.out hg (by intro e; have := Option.some.inj e; omega)); replace HK := Aside0.mk (HK.out.pick hg (Nat.lt_succ_of_lt hrT)); replace HV := Aside0.mk (gthen HV.out hg); replace HR := Aside0.mk hr; clear hr hg; have y0 := blk_cell HY.out 0; have yf0 := blk_fz HY.out 0; have z0 := blk_cell HC.out 0; have zf0 := blk_fz HC.out 0; have y1 := blk_cell HY.out 1; have yf1 := blk_fz HY.out 1; have z1 := blk_cell HC.out 1; have zf1 := blk_fz HC.out 1; have y2 := blk_cell HY.out 2; have yf2 := blk_fz HY.out 2; have z2 := blk_cell HC.out 2; have zf2 := blk_fz HC.out 2))
  refine name_world fun W5 hW5 => ?_
  have hy5 : W5.heap[Y]? = some (.cells #[.int .i64 (q - 1), .int .i64 (x1.f1), .slice A1 x1.f2.length c1] 62 (0, 0)) := by rw [hW5]; have := blk_set HY.out 0 (.int .i64 (q - 1)); simpa using this
  have hc5 : W5.heap[T]? = some (.cells #[.int .i64 0, .int .i64 0, .slice none 0 0] 62 (0, 0)) := by rw [hW5]; exact blk_far HC.out hTYn _
  have hr5 := HR.out.far (a := ⟨Y, 0, none⟩) hrY (show w0.heap.size ≤ Y by omega) (.int .i64 (q - 1))
  rw [← hW5] at hr5
  have hv5 : W.grownBy W5 (some rb) := by rw [hW5]; exact set_grown _ _ _ hWY HV.out
  have hk5 : PnKp (T + 1) w1 W5 := by rw [hW5]; exact HK.out.set HYL.out _ _
  clear hW5 y0 y1 y2 yf0 yf1 yf2 z0 z1 z2 zf0 zf1 zf2
  replace HY := Aside0.mk hy5
  replace HC := Aside0.mk hc5
  replace HR := Aside0.mk hr5
  replace HV := Aside0.mk hv5
  replace HK := Aside0.mk hk5
  clear hy5 hc5 hr5 hv5 hk5
  have y0 := blk_cell HY.out 0
  have yf0 := blk_fz HY.out 0
  have z0 := blk_cell HC.out 0
  have zf0 := blk_fz HC.out 0
  have y1 := blk_cell HY.out 1
  have yf1 := blk_fz HY.out 1
  have z1 := blk_cell HC.out 1
  have zf1 := blk_fz HC.out 1
  have y2 := blk_cell HY.out 2
  have yf2 := blk_fz HY.out 2
  have z2 := blk_cell HC.out 2
  have zf2 := blk_fz HC.out 2
  go_wp2
  have HQ := Aside0.mk (plan_fin HR.out HV.out HC.out HTE.out hrT (.int .i64 (q - 1)) (.int .i64 (x1.f1)) (.slice A1 x1.f2.length c1))
  refine ret_cell (p := 2) (g := T) (cs := #[.int .i64 (q - 1), .int .i64 (x1.f1), .slice A1 x1.f2.length c1]) rfl rfl rfl HQ.out.1 Try.underlying62 rfl (by kernel_rfl) ?_
  exact ⟨⟨q - 1, x1.f1, x1.f2⟩, _, _, rfl, HQ.out.2.2.2 _ _ (PnF.raw HF1.out HK.out), Adv.mk' (by omega) (by omega) HQ.out.2.1 HQ.out.2.2.1⟩
 ·have y0 := blk_cell HY.out 0
  have yf0 := blk_fz HY.out 0
  have z0 := blk_cell HC.out 0
  have zf0 := blk_fz HC.out 0
  have y1 := blk_cell HY.out 1
  have yf1 := blk_fz HY.out 1
  have z1 := blk_cell HC.out 1
  have zf1 := blk_fz HC.out 1
  have y2 := blk_cell HY.out 2
  have yf2 := blk_fz HY.out 2
  have z2 := blk_cell HC.out 2
  have zf2 := blk_fz HC.out 2
  go_upto_region 11 with fail
  refine name_world fun W5 hW5 => ?_
  have hy5 : W5.heap[Y]? = some (.cells #[.int .i64 (x1.f0), .int .i64 (x1.f1 + 5), .slice A1 x1.f2.length c1] 62 (0, 0)) := by rw [hW5]; have := blk_set HY.out 1 (.int .i64 (x1.f1 + 5)); simpa using this
  have hc5 : W5.heap[T]? = some (.cells #[.int .i64 0, .int .i64 0, .slice none 0 0] 62 (0, 0)) := by rw [hW5]; exact blk_far HC.out hTYn _
  have hr5 := HR.out.far (a := ⟨Y, 1, none⟩) hrY (show w0.heap.size ≤ Y by omega) (.int .i64 (x1.f1 + 5))
  rw [← hW5] at hr5
  have hv5 : W.grownBy W5 (some rb) := by rw [hW5]; exact set_grown _ _ _ hWY HV.out
  have hk5 : PnKp (T + 1) w1 W5 := by rw [hW5]; exact HK.out.set HYL.out _ _
  clear hW5 y0 y1 y2 yf0 yf1 yf2 z0 z1 z2 zf0 zf1 zf2
  replace HY := Aside0.mk hy5
  replace HC := Aside0.mk hc5
  replace HR := Aside0.mk hr5
  replace HV := Aside0.mk hv5
  replace HK := Aside0.mk hk5
  clear hy5 hc5 hr5 hv5 hk5
  have y0 := blk_cell HY.out 0
  have yf0 := blk_fz HY.out 0
  have z0 := blk_cell HC.out 0
  have zf0 := blk_fz HC.out 0
  have y1 := blk_cell HY.out 1
  have yf1 := blk_fz HY.out 1
  have z1 := blk_cell HC.out 1
  have zf1 := blk_fz HC.out 1
  have y2 := blk_cell HY.out 2
  have yf2 := blk_fz HY.out 2
  have z2 := blk_cell HC.out 2
  have zf2 := blk_fz HC.out 2
  go_wp2
  have HQ := Aside0.mk (plan_fin HR.out HV.out HC.out HTE.out hrT (.int .i64 (x1.f0)) (.int .i64 (x1.f1 + 5)) (.slice A1 x1.f2.length c1))
  refine ret_cell (p := 2) (g := T) (cs := #[.int .i64 (x1.f0), .int .i64 (x1.f1 + 5), .slice A1 x1.f2.length c1]) rfl rfl rfl HQ.out.1 Try.underlying62 rfl (by kernel_rfl) ?_
  exact ⟨⟨x1.f0, x1.f1 + 5, x1.f2⟩, _, _, rfl, HQ.out.2.2.2 _ _ (PnF.raw HF1.out HK.out), Adv.mk' (by omega) (by omega) HQ.out.2.1 HQ.out.2.2.1⟩
 ·have y0 := blk_cell HY.out 0
  have y1 := blk_cell HY.out 1
  have y2 := blk_cell HY.out 2
  have HC5 := Aside0.mk (blk_alloc HC.out (.cells #[.int .i64 x1.f0, .int .i64 x1.f1, .slice A1 x1.f2.length c1, .int .i64 x1.f0, .int .i64 x1.f1, .slice A1 x1.f2.length c1] 62))
  have z0 := blk_cell HC5.out 0
  have zf0 := blk_fz HC5.out 0
  have z1 := blk_cell HC5.out 1
  have zf1 := blk_fz HC5.out 1
  have z2 := blk_cell HC5.out 2
  have zf2 := blk_fz HC5.out 2
  have HP := Aside0.mk (PnF.raw HF1.out HK.out)
  have HP1 := PnF.below HP.out (below_alloc (Below.refl w'.heap.size w') (.cells #[.int .i64 x1.f0, .int .i64 x1.f1, .slice A1 x1.f2.length c1, .int .i64 x1.f0, .int .i64 x1.f1, .slice A1 x1.f2.length c1] 62))
  have HR5 := Aside0.mk (HR.out.alloc (.cells #[.int .i64 x1.f0, .int .i64 x1.f1, .slice A1 x1.f2.length c1, .int .i64 x1.f0, .int .i64 x1.f1, .slice A1 x1.f2.length c1] 62))
  have HV5 := Aside0.mk (gthen HV.out (alloc_grown w' (.cells #[.int .i64 x1.f0, .int .i64 x1.f1, .slice A1 x1.f2.length c1, .int .i64 x1.f0, .int .i64 x1.f1, .slice A1 x1.f2.length c1] 62) (some rb)))
  have HG := Aside0.mk (PnF.two HP1 HP1 (blk_lt HC.out) (blk_new w' _))
  clear HP1
  go_wp2
  have HQ := Aside0.mk (plan_fin HR5.out HV5.out HC5.out HTE.out hrT (.int .i64 4) (.int .i64 0) (.slice (some ⟨w'.heap.size, 0, none⟩) 2 2))
  refine ret_cell (p := 2) (g := T) (cs := #[.int .i64 4, .int .i64 0, .slice (some ⟨w'.heap.size, 0, none⟩) 2 2]) rfl rfl rfl HQ.out.1 Try.underlying62 rfl (by kernel_rfl) ?_
  exact ⟨⟨4, 0, [x1, x1]⟩, _, _, rfl, HQ.out.2.2.2 _ _ HG.out, Adv.mk' (by omega) (by omega) HQ.out.2.1 HQ.out.2.2.1⟩
 ·have y0 := blk_cell HY.out 0
  have y1 := blk_cell HY.out 1
  have y2 := blk_cell HY.out 2
  have HC5 := Aside0.mk (blk_alloc (blk_alloc HC.out (.cells #[.int .i64 x1.f0, .int .i64 x1.f1, .slice A1 x1.f2.length c1] 62)) (.cells #[.int .i64 4, .int .i64 0, .slice (some ⟨w'.heap.size, 0, none⟩) 1 1] 62))
  have z0 := blk_cell HC5.out 0
  have zf0 := blk_fz HC5.out 0
  have z1 := blk_cell HC5.out 1
  have zf1 := blk_fz HC5.out 1
  have z2 := blk_cell HC5.out 2
  have zf2 := blk_fz HC5.out 2
  have HP := Aside0.mk (PnF.raw HF1.out HK.out)
  have HP1 := PnF.below HP.out (below_alloc (Below.refl w'.heap.size w') (.cells #[.int .i64 x1.f0, .int .i64 x1.f1, .slice A1 x1.f2.length c1] 62))
  have hTw := blk_lt HC.out
  have HG1 := PnF.one HP1 hTw (blk_new w' _)
  obtain ⟨wa, hwa⟩ : ∃ wa, wa = w'.alloc (.cells #[.int .i64 x1.f0, .int .i64 x1.f1, .slice A1 x1.f2.length c1] 62) := ⟨_, rfl⟩
  have hws : wa.heap.size = w'.heap.size + 1 := by rw [hwa]; simp
  rw [← hwa] at HG1
  have HG2 := PnF.below HG1 (below_alloc (Below.refl wa.heap.size wa) (.cells #[.int .i64 4, .int .i64 0, .slice (some ⟨w'.heap.size, 0, none⟩) 1 1] 62))
  have HG := Aside0.mk (PnF.one (x := ⟨4, 0, [x1]⟩) HG2 (by omega) (blk_new wa (.cells #[.int .i64 4, .int .i64 0, .slice (some ⟨w'.heap.size, 0, none⟩) 1 1] 62)))
  rw [hwa] at HG
  rw [show (w'.alloc (.cells #[.int .i64 x1.f0, .int .i64 x1.f1, .slice A1 x1.f2.length c1] 62)).heap.size = w'.heap.size + 1 from by simp] at HG
  have HR5 := Aside0.mk ((HR.out.alloc (.cells #[.int .i64 x1.f0, .int .i64 x1.f1, .slice A1 x1.f2.length c1] 62)).alloc (.cells #[.int .i64 4, .int .i64 0, .slice (some ⟨w'.heap.size, 0, none⟩) 1 1] 62))
  have HV5 := Aside0.mk (gthen (gthen HV.out (alloc_grown w' (.cells #[.int .i64 x1.f0, .int .i64 x1.f1, .slice A1 x1.f2.length c1] 62) (some rb))) (alloc_grown (w'.alloc (.cells #[.int .i64 x1.f0, .int .i64 x1.f1, .slice A1 x1.f2.length c1] 62)) (.cells #[.int .i64 4, .int .i64 0, .slice (some ⟨w'.heap.size, 0, none⟩) 1 1] 62) (some rb)))
  clear hwa hws HG1 HG2 hTw HP1
  go_wp2
  have HQ := Aside0.mk (plan_fin HR5.out HV5.out HC5.out HTE.out hrT (.int .i64 4) (.int .i64 0) (.slice (some ⟨w'.heap.size + 1, 0, none⟩) 1 1))
  refine ret_cell (p := 2) (g := T) (cs := #[.int .i64 4, .int .i64 0, .slice (some ⟨w'.heap.size + 1, 0, none⟩) 1 1]) rfl rfl rfl HQ.out.1 Try.underlying62 rfl (by kernel_rfl) ?_
  exact ⟨⟨4, 0, [⟨4, 0, [x1]⟩]⟩, _, _, rfl, HQ.out.2.2.2 _ _ HG.out, Adv.mk' (by omega) (by omega) HQ.out.2.1 HQ.out.2.2.1⟩
 ·have z0 : (t == 0) = false := by simp; omega
  have z1 : (t == 1) = false := by simp; omega
  have z2 : (t == 2) = false := by simp; omega
  have z3 : (t == 3) = false := by simp; omega
  go_upto_region 11 with fail
  clear z0 z1 z2 z3
  have y0 := blk_cell HY.out 0
  have yf0 := blk_fz HY.out 0
  have z0 := blk_cell HC.out 0
  have zf0 := blk_fz HC.out 0
  have y1 := blk_cell HY.out 1
  have yf1 := blk_fz HY.out 1
  have z1 := blk_cell HC.out 1
  have zf1 := blk_fz HC.out 1
  have y2 := blk_cell HY.out 2
  have yf2 := blk_fz HY.out 2
  have z2 := blk_cell HC.out 2
  have zf2 := blk_fz HC.out 2
  go_wp2
  have HQ := Aside0.mk (plan_fin HR.out HV.out HC.out HTE.out hrT (.int .i64 (x1.f0)) (.int .i64 (x1.f1)) (.slice A1 x1.f2.length c1))
  refine ret_cell (p := 2) (g := T) (cs := #[.int .i64 (x1.f0), .int .i64 (x1.f1), .slice A1 x1.f2.length c1]) rfl rfl rfl HQ.out.1 Try.underlying62 rfl (by kernel_rfl) ?_
  exact ⟨⟨x1.f0, x1.f1, x1.f2⟩, _, _, rfl, HQ.out.2.2.2 _ _ (PnF.raw HF1.out HK.out), Adv.mk' (by omega) (by omega) HQ.out.2.1 HQ.out.2.2.1⟩
end Go.Proofs.Ytkdendlgaaimbaa.X
