/- Conditions: none. -/
import Derived.Test.YtkdendlgaaimbaaYPPn
namespace Go.Proofs.Ytkdendlgaaimbaa.X
open Go.RowKit Go.Proofs.YtkdendlgaaimbaaW.PrintWords
set_option linter.unusedVariables false
set_option linter.unusedSimpArgs false
inductive Shp (w : World) (ok : Nat → Prop) : Value → List Pn → Prop
 | nil (A : Option Addr) (c : Nat) : Shp w ok (.slice A 0 c) []
 | row {g c : Nat} {l : List Pn} {cells : Array Value} (u : Nat → Value) (hg : ok g) (hb : w.heap[g]? = some (.cells cells 62 (0, 0))) (hl : 0 < l.length) (hm : l.length ≤ 9223372036854775807)
   (h0 : ∀ j x, l[j]? = some x → ∃ a, cells[j * 3]? = some (.int .i64 a)) (h1 : ∀ j x, l[j]? = some x → ∃ a, cells[j * 3 + 1]? = some (.int .i64 a)) (h2 : ∀ j x, l[j]? = some x → cells[j * 3 + 2]? = some (u j)) (h3 : ∀ j x, l[j]? = some x → Shp w ok (u j) x.f2) : Shp w ok (.slice (some ⟨g, 0, none⟩) l.length c) l
theorem Shp.inv {w : World} {ok : Nat → Prop} {v : Value} {l : List Pn} (h : Shp w ok v l) (hl : 0 < l.length) : ∃ (g c : Nat) (cells : Array Value) (u : Nat → Value), v = .slice (some ⟨g, 0, none⟩) l.length c ∧ ok g ∧ w.heap[g]? = some (.cells cells 62 (0, 0)) ∧
  (∀ j x, l[j]? = some x → ∃ a, cells[j * 3]? = some (.int .i64 a)) ∧ (∀ j x, l[j]? = some x → ∃ a, cells[j * 3 + 1]? = some (.int .i64 a)) ∧ (∀ j x, l[j]? = some x → cells[j * 3 + 2]? = some (u j)) ∧ (∀ j x, l[j]? = some x → Shp w ok (u j) x.f2) := by
 cases h with
 | nil A c => simp at hl
 | row u hg hb hl hm h0 h1 h2 h3 => exact ⟨_, _, _, u, rfl, hg, hb, h0, h1, h2, h3⟩
theorem Shp.sl {w : World} {ok : Nat → Prop} {v : Value} {l : List Pn} (h : Shp w ok v l) : ∃ A c, v = .slice A l.length c ∧ l.length ≤ 9223372036854775807 := by
 cases h with
 | nil A c => exact ⟨A, c, rfl, by simp⟩
 | row u hg hb hl hm h0 h1 h2 h3 => exact ⟨_, _, rfl, hm⟩
theorem Shp.set {w : World} {ok : Nat → Prop} {v : Value} {l : List Pn} (h : Shp w ok v l) (g o : Nat) (n : Int) (ho : o % 3 ≠ 2) : Shp (w.setCell ⟨g, o, none⟩ (.int .i64 n)) ok v l := by
 induction h with
 | nil A c => exact .nil A c
 | @row g' c l cells u hg hb hl hm h0 h1 h2 h3 ih =>
  by_cases e : g' = g
  ·subst e
   refine .row u hg (blk_set hb o _) hl hm (fun j x hj => ?_) (fun j x hj => ?_) (fun j x hj => ?_) ih
   ·obtain ⟨a, ha⟩ := h0 j x hj
    rw [Array.getElem?_setIfInBounds]
    split
    ·split
     ·exact ⟨n, rfl⟩
     ·rename_i h1 h2
      subst h1
      rw [Array.getElem?_eq_none (by omega)] at ha
      cases ha
    ·exact ⟨a, ha⟩
   ·obtain ⟨a, ha⟩ := h1 j x hj
    rw [Array.getElem?_setIfInBounds]
    split
    ·split
     ·exact ⟨n, rfl⟩
     ·rename_i h1 h2
      subst h1
      rw [Array.getElem?_eq_none (by omega)] at ha
      cases ha
    ·exact ⟨a, ha⟩
   ·rw [Array.getElem?_setIfInBounds, if_neg (by omega)]
    exact h2 j x hj
  ·exact .row u hg (blk_far hb (by simpa using e) _) hl hm h0 h1 h2 ih
theorem Shp.fwd {w w1 : World} {ok : Nat → Prop} {v : Value} {l : List Pn} (h : Shp w ok v l) (hb1 : Below w.heap.size w w1) : Shp w1 ok v l := by
 induction h with
 | nil A c => exact .nil A c
 | @row g' c l cells u hg hb hl hm h0 h1 h2 h3 ih => exact .row u hg (blk_below hb hb1) hl hm h0 h1 h2 ih
theorem pnM_open {w : World} {base : Nat} {ok : Nat → Prop} {x : Pn} {cs : List Value} (h : kPn.M w base ok x cs) : ∃ v2, cs = [.int .i64 x.f0, .int .i64 x.f1, v2] ∧ kPn.R 62 w base ok v2 x.f2 := by
 obtain ⟨n, h⟩ := h
 cases n with
 | zero => exact h.elim
 | succ n =>
  obtain ⟨_, _, rfl, rfl, ⟨_, _, rfl, rfl, ⟨v2, rfl, g2⟩⟩⟩ := h
  exact ⟨v2, rfl, Kd.fix_R g2⟩
theorem shp_of_R {w : World} {base : Nat} : ∀ (N : Nat) (l : List Pn), SizeOf.sizeOf l < N → ∀ (v : Value) (ok : Nat → Prop), kPn.R 62 w base ok v l → Shp w ok v l := by
 intro N
 induction N with
 | zero => intro l hl; omega
 | succ N ih =>
  intro l hl v ok h
  by_cases hp : 0 < l.length
  ·obtain ⟨g, cap, rfl, hg1, hg2, cells, hb⟩ := Kd.R_form h hp
   have hmx : l.length ≤ 9223372036854775807 := (Sl.of_R h).max
   have key : ∀ j, ∃ u : Value, ∀ x, l[j]? = some x → cells[j * 3]? = some (.int .i64 x.f0) ∧ cells[j * 3 + 1]? = some (.int .i64 x.f1) ∧ cells[j * 3 + 2]? = some u ∧ Shp w ok u x.f2 := by
    intro j
    by_cases hj : j < l.length
    ·obtain ⟨c, hcl, hM, hcc, _⟩ := Kd.R_elem h l[j] (j : Int) (by omega) (by omega)
     simp only [Int.toNat_natCast] at hcc hM
     have e0 : l.getD j l[j] = l[j] := by simp [List.getD, List.getElem?_eq_getElem hj]
     rw [e0] at hM
     obtain ⟨v2, rfl, hr⟩ := pnM_open hM
     refine ⟨v2, fun x hx => ?_⟩
     have ex : l[j] = x := by rw [List.getElem?_eq_getElem hj] at hx; exact Option.some.inj hx
     rw [ex] at hr hcc
     have h0 := hcc 0 _ rfl
     have h1 := hcc 1 _ rfl
     have h2 := hcc 2 _ rfl
     have hs : kPn.sz = 3 := rfl
     rw [hs] at h0 h1 h2
     refine ⟨?_, ?_, ?_, ih x.f2 (Nat.lt_of_lt_of_le (kids_lt (List.mem_of_getElem? hx)) (Nat.le_of_lt_succ hl)) v2 ok (Kd.R_mono hr (fun _ hk => hk.1))⟩
     ·rw [← blk_cell hb]; exact h0
     ·rw [← blk_cell hb]; exact h1
     ·rw [← blk_cell hb]; exact h2
    ·exact ⟨.nilIface, fun x hx => absurd (List.getElem?_eq_some_iff.1 hx).1 hj⟩
   exact .row (fun j => (key j).choose) (h.1 g (by simp [Value.ownBlock])) hb hp hmx (fun j x hx => ⟨_, ((key j).choose_spec x hx).1⟩) (fun j x hx => ⟨_, ((key j).choose_spec x hx).2.1⟩) (fun j x hx => ((key j).choose_spec x hx).2.2.1) (fun j x hx => ((key j).choose_spec x hx).2.2.2)
  ·obtain rfl : l = [] := List.eq_nil_of_length_eq_zero (by omega)
   obtain ⟨A, c, rfl, _, _⟩ := Kd.R_reads h
   exact .nil A c
structure MkP (w0 w : World) (P0 : Nat → Prop) (r : Int) (e : Ending) (w' : World) : Prop where
 e : e = .returned (.int .i64 r)
 bel : Below w0.heap.size w0 w'
 kept : Kept w w' P0
 shp : ∀ v l, Shp w P0 v l → Shp w' P0 v l
theorem kept_trans {w w1 w2 : World} {P : Nat → Prop} (h : Kept w w1 P) (k : Kept w1 w2 P) : Kept w w2 P := ⟨Nat.le_trans h.1 k.1, fun q hq hn => (k.2 q (Nat.lt_of_lt_of_le hq h.1) hn).trans (h.2 q hq hn)⟩
theorem kept_set {w w1 : World} {P : Nat → Prop} (h : Kept w w1 P) {g : Nat} (hg : P g) (o : Nat) (u : Value) : Kept w (w1.setCell ⟨g, o, none⟩ u) P := ⟨by simpa using h.1, fun q hq hn => (Below.heap_setCell _ _ _ _ (fun e => hn (by rw [e]; exact hg))).trans (h.2 q hq hn)⟩
set_option maxRecDepth 100000 in
set_option maxHeartbeats 2000000 in
theorem laws_markPlanS_n (w0 : World) (P0 : Nat → Prop) (hP : ∀ q, P0 q → w0.heap.size ≤ q) : ∀ (N : Nat) (l : List Pn), SizeOf.sizeOf l < N → ∀ (v : Value) (k0 : Int) (w : World), Below w0.heap.size w0 w → Shp w P0 v l → 0 ≤ k0 → k0 + 2 * (cntL l : Int) < 4611686018427387904 → Calls Try.prog 125 #[v, .int .i64 k0] w (MkP w0 w P0 (k0 + 2 * (cntL l : Int))) := by
 intro N
 induction N with
 | zero => intro l hl; omega
 | succ N ih =>
  intro l hl v k0 w hB h h0 h1
  have HI := Aside0.mk ih
  have HL := Aside0.mk hl
  have HC := Aside0.mk (cntL_eq l)
  have HPP := Aside0.mk hP
  clear ih hl hP
  have HB := Aside0.mk hB
  have HS := Aside0.mk h
  have HK := Aside0.mk (Kept.refl w P0)
  obtain ⟨A, c, rfl, hm⟩ := h.sl
  clear hB h
  generalize cntL l = n at *
  go_enter Try.func125, Try.ntmps125
  go_wp2
  go_loopw [1, 5] (fun q i wr => ∃ k : Nat, k ≤ l.length ∧ q = .int .i64 (k0 + 2 * ((k : Int) + (sumP (l.take k) : Int))) ∧ i = .int .i64 k ∧ Aside0 (Below w0.heap.size w0 wr) ∧ Aside0 (Kept w wr P0) ∧ Aside0 (∀ v l, Shp w P0 v l → Shp wr P0 v l)) (fun _ i _ => l.length - (intOf i).toNat)
  case atStart => exact ⟨0, Nat.zero_le _, by simp [sumP], rfl, HB, HK, ⟨fun _ _ h => h⟩⟩
  case round =>
   clear HB HK
   obtain ⟨k, hk, rfl, rfl, HB, HK, HT⟩ := hrel
   by_cases hlt : k < l.length
   ·obtain ⟨x, hx⟩ : ∃ x, l[k]? = some x := ⟨_, List.getElem?_eq_getElem hlt⟩
    obtain ⟨g, c2, cells, u, e, hg, hb, c0, c1, cu, cs⟩ := (HT.out _ _ HS.out).inv (by omega)
    cases e
    obtain ⟨a0, ha0⟩ := c0 k x hx
    obtain ⟨a1, ha1⟩ := c1 k x hx
    have ha2 := cu k x hx
    have HU := Aside0.mk (cs k x hx)
    have hxl : SizeOf.sizeOf x.f2 < N := Nat.lt_of_lt_of_le (kids_lt (List.mem_of_getElem? hx)) (Nat.le_of_lt_succ HL.out)
    have HTk := Aside0.mk (sumP_take hx)
    have hsm := sumP_mono l (k + 1)
    have hcx := cnt_mem (List.mem_of_getElem? hx)
    rw [HTk.out] at hsm
    have hnn := HC.out
    obtain ⟨q, hq⟩ : ∃ q : Int, q = k0 + 2 * ((k : Int) + (sumP (l.take k) : Int)) := ⟨_, rfl⟩
    have HQ := Aside0.mk hq
    have q0 : 0 ≤ q := by omega
    have q1 : q + 2 + 2 * (cntL x.f2 : Int) < 4611686018427387904 := by omega
    have HCx := Aside0.mk (fun w hb hs => HI.out x.f2 hxl (u k) (q + 2) w hb hs (by omega) q1)
    rw [← hq]
    have HXX := Aside0.mk hx
    clear hq hxl hsm hcx hnn hx c0 c1 cu cs
    have z0 : wr.cell? ⟨g, k * 3, none⟩ = some (.int .i64 a0) := by rw [blk_cell hb]; exact ha0
    have z1 : wr.cell? ⟨g, k * 3 + 1, none⟩ = some (.int .i64 a1) := by rw [blk_cell hb]; exact ha1
    have z2 : wr.cell? ⟨g, k * 3 + 2, none⟩ = some (u k) := by rw [blk_cell hb]; exact ha2
    have zf0 := blk_frozen hb (k * 3)
    have zf1 := blk_frozen hb (k * 3 + 1)
    have HG := Aside0.mk hg
    have hgl := HPP.out g hg
    have e1 : IntKind.i64.wrap (q + 1) = q + 1 := wrapM (by omega) (by omega)
    have e2 : IntKind.i64.wrap (q + 1 + 1) = q + 2 := wrapM (by omega) (by omega)
    have ha0' := ha0
    clear ha0 ha1 ha2 hg ha0'
    go_upto_region 8 with fail
    refine name_world fun W2 hW2 => ?_
    have hb2 : W2.heap[g]? = some (.cells ((cells.setIfInBounds (k * 3) (.int .i64 q)).setIfInBounds (k * 3 + 1) (.int .i64 (q + 1))) 62 (0, 0)) := by rw [hW2]; exact blk_set (blk_set hb (k * 3) (.int .i64 q)) (k * 3 + 1) (.int .i64 (q + 1))
    have z3 : W2.cell? ⟨g, k * 3 + 2, none⟩ = some (u k) := by
     rw [blk_cell hb2, Array.getElem?_setIfInBounds, if_neg (by omega), Array.getElem?_setIfInBounds, if_neg (by omega), ← blk_cell hb]
     exact z2
    have HB2 := Aside0.mk (show Below w0.heap.size w0 W2 by rw [hW2]; exact below_set (below_set HB.out hgl) hgl)
    have HK2 := Aside0.mk (show Kept w W2 P0 by rw [hW2]; exact kept_set (kept_set HK.out HG.out _ _) HG.out _ _)
    have HT2 := Aside0.mk (show ∀ v l, Shp w P0 v l → Shp W2 P0 v l from fun v l h => by rw [hW2]; exact ((HT.out v l h).set g (k * 3) q (by omega)).set g (k * 3 + 1) (q + 1) (by omega))
    have HU2 := Aside0.mk (show Shp W2 P0 (u k) x.f2 by rw [hW2]; exact (HU.out.set g (k * 3) q (by omega)).set g (k * 3 + 1) (q + 1) (by omega))
    clear hW2 hb2 hb z0 z1 z2 zf0 zf1 HB HK HT HU
    go_wp2_with (go_at_call 125; ((with_reducible refine (HCx.out _ HB2.out HU2.out).mono ?_); rintro e w' ⟨rfl, hb', hk', ht'⟩; have HB := Aside0.mk hb'; have HK := Aside0.mk (kept_trans HK2.out hk'); have HT := Aside0.mk (fun v l h => ht' v l (HT2.out v l h)); clear hb' hk' ht'))
    go_roundw
    case rel => exact ⟨k + 1, by omega, by rw [HTk.out]; have := HQ.out; exact congrArg (Value.int .i64) (by omega), by go_num, HB, HK, HT⟩
    case measure => simp [intOf]; omega
   ·have ek : k = l.length := by omega
    subst ek
    go_wp2
    go_ret
    exact ⟨by rw [List.take_length]; have := HC.out; exact congrArg (fun z => Ending.returned (Value.int .i64 z)) (by omega), HB.out, HK.out, HT.out⟩
set_option maxRecDepth 100000 in
set_option maxHeartbeats 1000000 in
theorem laws_markPlan (w0 : World) (P0 : Nat → Prop) (hP : ∀ q, P0 q → w0.heap.size ≤ q) (x : Pn) (v : Value) (k0 : Int) (w : World) (hB : Below w0.heap.size w0 w) (h : Shp w P0 v x.f2) (h0 : 0 ≤ k0) (h1 : k0 + 2 * (cntL x.f2 : Int) < 4611686018427387904) (a b : Int) :
  Calls Try.prog 63 #[.agg #[.int .i64 a, .int .i64 b, v], .int .i64 k0] w fun e w' => e = .returned (.int .i64 (k0 + 2 * (cntL x.f2 : Int))) ∧ Below w0.heap.size w0 w' ∧ Kept w w' P0 := by
 have HB0 := Aside0.mk hB
 have HS := Aside0.mk h
 have HC := Aside0.mk (fun w hB h => laws_markPlanS_n w0 P0 hP (SizeOf.sizeOf x.f2 + 1) x.f2 (by omega) v k0 w hB h h0 h1)
 obtain ⟨A, c, rfl, hm⟩ := h.sl
 clear hB h
 generalize cntL x.f2 = n at *
 go_enter Try.func63, Try.ntmps63
 go_upto_region 1 with fail
 refine name_world fun W1 hW1 => ?_
 have hb1 : Below w.heap.size w W1 := hW1 ▸ below_alloc (Below.refl _ _) _
 have X2 : W1.cell? ⟨w.heap.size, 2, none⟩ = some (.slice A x.f2.length c) := by rw [hW1]; simp
 clear hW1
 have HB1 := Aside0.mk (bthen HB0.out hb1)
 have HS1 := Aside0.mk (HS.out.fwd hb1)
 have HK1 := Aside0.mk (Kept.of_below hb1 P0)
 clear hb1
 go_wp2_with (go_at_call 125; ((with_reducible refine (HC.out _ HB1.out HS1.out).mono ?_); rintro e w' ⟨rfl, hb', hk', ht'⟩; have HB := Aside0.mk hb'; have HK := Aside0.mk (kept_trans HK1.out hk'); clear hb' hk' ht'))
 go_ret
 exact ⟨rfl, HB.out, HK.out⟩
end Go.Proofs.Ytkdendlgaaimbaa.X
