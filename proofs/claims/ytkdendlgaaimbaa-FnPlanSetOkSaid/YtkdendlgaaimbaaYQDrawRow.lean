/- Conditions: none. -/
import Derived.Test.YtkdendlgaaimbaaYQDrawx2
import Derived.Test.YtkdendlgaaimbaaYQLb
namespace Go.Proofs.Ytkdendlgaaimbaa.X
open Go.RowKit Go.Proofs.Ytkdendlgaaimbaa.PDraw Go.Proofs.YtkdendlgaaimbaaW.PrintWords
set_option linter.unusedVariables false
set_option linter.unusedSimpArgs false
theorem xor_nn2 {a b : Int} (ha : 0 ≤ a) (ha' : a < 9223372036854775808) (hb : 0 ≤ b) (hb' : b < 9223372036854775808) : 0 ≤ Go.bits .xor .i64 a b := by
 obtain ⟨n, rfl⟩ := Int.eq_ofNat_of_zero_le ha
 obtain ⟨m, rfl⟩ := Int.eq_ofNat_of_zero_le hb
 exact bits_xor_nonneg n m (by omega) (by omega)
theorem pick_e {s : List Int} (hs : s.length ≤ 2000) (hb : ∀ x ∈ s, 0 ≤ x ∧ x ≤ 255) {p : Int} (h0 : 0 ≤ p) (h1 : p ≤ 1000000) {n : Int} (hn : 1 ≤ n) (hn2 : n ≤ 1000000) :
  ∃ v, 0 ≤ v ∧ v < n ∧ Ev (fun k => spec_l6Rd_pick.f k s p n) (v, p + 1) := by
 have e1 : wrap64 (p + 1) = p + 1 := wsmall (by omega) (by omega)
 have e2 : wrap64 (p + 1 - 1) = p := by rw [wsmall (by omega) (by omega)]; omega
 have e3 : wrap64 (p * 7) = p * 7 := wsmall (by omega) (by omega)
 have e4 : wrap64 (p * 7 + 3) = p * 7 + 3 := wsmall (by omega) (by omega)
 have rdb : ∀ i : Int, 0 ≤ i → i < s.length → 0 ≤ rd s i ∧ rd s i ≤ 255 := fun i hi hl => by
  obtain ⟨j, rfl⟩ := Int.eq_ofNat_of_zero_le hi
  have hj : j < s.length := by omega
  have : rd s (j : Int) = s[j] := by simp [rd, List.getD, hj]
  rw [this]; exact hb _ (List.getElem_mem hj)
 suffices H : ∃ v, 0 ≤ v ∧ v < n ∧ spec_l6Rd_pick.f 1 s p n = some (v, p + 1) by
  obtain ⟨v, g0, g1, H⟩ := H
  exact ⟨v, g0, g1, Ev.succ (Ev.all fun k => H)⟩
 simp only [spec_l6Rd_pick.f, spec_l6Rd_pick.j0]
 have hn0 : n ≠ 0 := by omega
 have md : ∀ x : Int, 0 ≤ x → 0 ≤ Int.tmod x n ∧ Int.tmod x n < n := fun x hx => ⟨Int.tmod_nonneg n hx, Int.tmod_lt_of_pos x (by omega)⟩
 by_cases hz : s.length = 0
 ·rw [if_neg (by omega), if_pos (by simp; exact List.eq_nil_of_length_eq_zero hz), e1]
  exact ⟨0, by omega, by omega, rfl⟩
 ·have hbq : ((s.length : Int) == 0) = false := beq_eq_false_iff_ne.2 (by omega)
  have hz2 : ¬ (s.length : Int) = 0 := by omega
  have q0 := Int.tmod_nonneg (s.length : Int) h0
  have q1 := Int.tmod_lt_of_pos p (show 0 < (s.length : Int) by omega)
  have q2 := Int.tmod_nonneg (s.length : Int) (show 0 ≤ p * 7 + 3 by omega)
  have q3 := Int.tmod_lt_of_pos (p * 7 + 3) (show 0 < (s.length : Int) by omega)
  by_cases hl : p < (s.length : Int)
  ·rw [if_neg (by omega), hbq, if_neg (by simp), e1, e2, if_pos hl, if_pos h0, if_neg hn0]
   obtain ⟨b0, b1⟩ := rdb p h0 hl
   have ew : wrap64 (rd s p) = rd s p := wsmall b0 (by omega)
   rw [ew]
   exact ⟨_, (md _ b0).1, (md _ b0).2, rfl⟩
  ·rw [if_neg (by omega), hbq, if_neg (by simp), e1, e2, e3, e4, if_neg hl, if_neg hz2, if_pos q0, if_pos q1, if_pos q2, if_pos q3, if_neg hn0]
   obtain ⟨b0, b1⟩ := rdb _ q0 q1
   obtain ⟨c0, c1⟩ := rdb _ q2 q3
   generalize rd s (Int.tmod p (s.length : Int)) = x at *
   generalize rd s (Int.tmod (p * 7 + 3) (s.length : Int)) = y at *
   have d0 : 0 ≤ Int.tdiv p (s.length : Int) := Int.tdiv_nonneg h0 (by omega)
   have d1 : Int.tdiv p (s.length : Int) ≤ p := by rw [Int.tdiv_eq_ediv_of_nonneg h0]; exact Int.ediv_le_self _ h0
   generalize Int.tdiv p (s.length : Int) = q at *
   have w1 : wrap64 x = x := wsmall b0 (by omega)
   have w2 : wrap64 (x * 131) = x * 131 := wsmall (by omega) (by omega)
   have w3 : wrap64 y = y := wsmall c0 (by omega)
   have w4 : wrap64 (y * 1117) = y * 1117 := wsmall (by omega) (by omega)
   have w5 : wrap64 (x * 131 + y * 1117) = x * 131 + y * 1117 := wsmall (by omega) (by omega)
   have w6 : wrap64 (p * 29) = p * 29 := wsmall (by omega) (by omega)
   have w7 : wrap64 (x * 131 + y * 1117 + p * 29) = x * 131 + y * 1117 + p * 29 := wsmall (by omega) (by omega)
   have w8 : wrap64 q = q := wsmall d0 (by omega)
   have w9 : wrap64 (q * 53) = q * 53 := wsmall (by omega) (by omega)
   have w10 : wrap64 (x * 131 + y * 1117 + p * 29 + q * 53) = x * 131 + y * 1117 + p * 29 + q * 53 := wsmall (by omega) (by omega)
   simp only [w1, w2, w3, w4, w5, w6, w7, w8, w9, w10]
   have hz0 : 0 ≤ x * 131 + y * 1117 + p * 29 + q * 53 := by omega
   have hz1 : x * 131 + y * 1117 + p * 29 + q * 53 < 9223372036854775808 := by omega
   generalize x * 131 + y * 1117 + p * 29 + q * 53 = z at *
   have t0 : Int.tdiv z 64 = z / 64 := Int.tdiv_eq_ediv_of_nonneg hz0
   have t1 : wrap64 (z / 64) = z / 64 := wsmall (by omega) (by omega)
   rw [t0, t1]
   have hx := xor_nn2 hz0 hz1 (show 0 ≤ z / 64 by omega) (by omega)
   exact ⟨_, (md _ hx).1, (md _ hx).2, rfl⟩
theorem time_e {s : List Int} (hs : s.length ≤ 2000) (hb : ∀ x ∈ s, 0 ≤ x ∧ x ≤ 255) {p : Int} (h0 : 0 ≤ p) (h1 : p ≤ 900000) :
  ∃ a b p', 0 ≤ a ∧ a ≤ 7 ∧ 0 ≤ b ∧ b ≤ 7 ∧ p ≤ p' ∧ p' ≤ p + 3 ∧ Ev (fun k => spec_l71Time.f k s p) (a, b, p') := by
 obtain ⟨v, _, _, hv⟩ := pick_e hs hb h0 (by omega) (n := 10) (by omega) (by omega)
 by_cases hz : v = 0
 ·obtain ⟨a, a0, a1, ha⟩ := pick_e hs hb (p := p + 1) (by omega) (by omega) (n := 8) (by omega) (by omega)
  obtain ⟨b, b0, b1, hb2⟩ := pick_e hs hb (p := p + 1 + 1) (by omega) (by omega) (n := 8) (by omega) (by omega)
  refine ⟨a, b, p + 1 + 1 + 1, by omega, by omega, by omega, by omega, by omega, by omega, ?_⟩
  simp only [spec_l71Time.f]
  refine Ev.bind hv ?_
  simp only [if_pos hz]
  exact Ev.bind ha (Ev.bind hb2 (Ev.pure _))
 ·obtain ⟨a, a0, a1, ha⟩ := pick_e hs hb (p := p + 1) (by omega) (by omega) (n := 4) (by omega) (by omega)
  obtain ⟨b, b0, b1, hb2⟩ := pick_e hs hb (p := p + 1 + 1) (by omega) (by omega) (n := 4) (by omega) (by omega)
  refine ⟨a, b, p + 1 + 1 + 1, by omega, by omega, by omega, by omega, by omega, by omega, ?_⟩
  simp only [spec_l71Time.f]
  refine Ev.bind hv ?_
  simp only [if_neg hz]
  exact Ev.bind ha (Ev.bind hb2 (Ev.pure _))
theorem tab9 (v : Int) (h0 : 0 ≤ v) (h1 : v < 9) : 0 ≤ rd [0, 1, 2, 3, 4, 9, 10, 57, 99] v ∧ rd [0, 1, 2, 3, 4, 9, 10, 57, 99] v ≤ 99 := by
 obtain ⟨j, rfl⟩ := Int.eq_ofNat_of_zero_le h0
 have : j < 9 := by omega
 match j, this with
 | 0, _ => decide
 | 1, _ => decide
 | 2, _ => decide
 | 3, _ => decide
 | 4, _ => decide
 | 5, _ => decide
 | 6, _ => decide
 | 7, _ => decide
 | 8, _ => decide
theorem tab8 (v : Int) (h0 : 0 ≤ v) (h1 : v < 8) : -1 ≤ rd [1, 1, 1, 2, -1, -1, 3, 0] v ∧ rd [1, 1, 1, 2, -1, -1, 3, 0] v ≤ 3 := by
 obtain ⟨j, rfl⟩ := Int.eq_ofNat_of_zero_le h0
 have : j < 8 := by omega
 match j, this with
 | 0, _ => decide
 | 1, _ => decide
 | 2, _ => decide
 | 3, _ => decide
 | 4, _ => decide
 | 5, _ => decide
 | 6, _ => decide
 | 7, _ => decide
def small (r : Rw) : Prop := 0 ≤ r.f0 ∧ r.f0 ≤ 3 ∧ 0 ≤ r.f1 ∧ r.f1 ≤ 99 ∧ (0 ≤ r.f2.f0 ∧ r.f2.f0 ≤ 7 ∧ 0 ≤ r.f2.f1 ∧ r.f2.f1 ≤ 7) ∧ -3 ≤ r.f3 ∧ r.f3 ≤ 3
theorem row_e {s : List Int} (hs : s.length ≤ 2000) (hb : ∀ x ∈ s, 0 ≤ x ∧ x ≤ 255) {p : Int} (h0 : 0 ≤ p) (h1 : p ≤ 800000) :
  ∃ a b c d e p', small ⟨a, b, ⟨c, d⟩, e⟩ ∧ p ≤ p' ∧ p' ≤ p + 6 ∧ Ev (fun k => spec_l71Row.f k s p) (a, b, c, d, e, p') := by
 obtain ⟨a, a0, a1, ha⟩ := pick_e hs hb h0 (by omega) (n := 4) (by omega) (by omega)
 obtain ⟨v, v0, v1, hv⟩ := pick_e hs hb (p := p + 1) (by omega) (by omega) (n := 9) (by omega) (by omega)
 obtain ⟨c, d, p2, c0, c1, d0, d1, g0, g1, ht⟩ := time_e hs hb (p := p + 1 + 1) (by omega) (by omega)
 obtain ⟨u, u0, u1, hu⟩ := pick_e hs hb (p := p2) (by omega) (by omega) (n := 8) (by omega) (by omega)
 have t9 := tab9 v v0 v1
 have t8 := tab8 u u0 u1
 refine ⟨a, rd [0, 1, 2, 3, 4, 9, 10, 57, 99] v, c, d, rd [1, 1, 1, 2, -1, -1, 3, 0] u, p2 + 1, ⟨a0, by show a ≤ 3; omega, t9.1, t9.2, ⟨c0, c1, d0, d1⟩, by show -3 ≤ rd _ u; omega, t8.2⟩, by omega, by omega, ?_⟩
 simp only [spec_l71Row.f, Option.bind_some]
 refine Ev.bind ha ?_
 refine Ev.bind hv ?_
 simp only [if_pos v0, if_pos (show v < (([0, 1, 2, 3, 4, 9, 10, 57, 99] : List Int).length : Int) from v1)]
 refine Ev.bind ht ?_
 refine Ev.bind hu ?_
 simp only [if_pos u0, if_pos (show u < (([1, 1, 1, 2, -1, -1, 3, 0] : List Int).length : Int) from u1)]
 exact Ev.pure _
theorem spec_l71Row {w0 W : World} {rb : Nat} {s : List Int} {p : Int} (hS : Aside0 (RS s)) (h : Rd w0 rb s p W) (hp : p ≤ 800000) :
  Calls Try.prog 165 #[.pointer (some ⟨rb, 0, none⟩)] W fun e W' => ∃ r : Rw, e = .returned (.agg #[.int .i64 r.f0, .int .i64 r.f1, .int .i64 r.f2.f0, .int .i64 r.f2.f1, .int .i64 r.f3]) ∧ small r ∧ Adv w0 rb s p 6 W W' := by
 obtain ⟨x0, x1, x2, x3, x4, p', hsm, g0, g1, K, hk⟩ := row_e hS.out.len hS.out.by_ h.nn hp
 have hI : IsS145 w0 W rb s p := by obtain ⟨A, c, h1, h2⟩ := h.blk; exact ⟨A, c, h1, h.ge, h2⟩
 refine (spec_l71Row.calls K rb s p x0 x1 x2 x3 x4 p' w0 W hI h.bel (hk K (Nat.le_refl _))).mono ?_
 rintro e W' ⟨rfl, ⟨A', c', hb, hg, hr⟩, hbel, hkb⟩
 exact ⟨⟨x0, x1, ⟨x2, x3⟩, x4⟩, rfl, hsm, p', g0, g1, ⟨⟨A', c', hb, hr⟩, hbel, hg, by have := h.nn; omega⟩, ⟨hbel.os.trans h.bel.os.symm, hbel.tape.trans h.bel.tape.symm, hbel.output.trans h.bel.output.symm, hkb.1, fun k hk hn => hkb.2 k hk (fun e => hn (by rw [e])) (by simp)⟩⟩
end Go.Proofs.Ytkdendlgaaimbaa.X
