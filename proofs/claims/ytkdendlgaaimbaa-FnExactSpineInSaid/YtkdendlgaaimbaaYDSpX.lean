/- Conditions: none. -/
import Derived.Test.YtkdendlgaaimbaaYDSpXx3
import Derived.Test.YtkdendlgaaimbaaYDSpC
import Derived.Test.YtkdendlgaaimbaaYCBs
import Derived.Test.YtkdendlgaaimbaaYDBs
namespace Go.Proofs.Ytkdendlgaaimbaa.X
open Go.RowKit Go.Proofs.Ytkdendlgaaimbaa.PSpX Go.Proofs.YtkdendlgaaimbaaW.PrintWords
set_option linter.unusedVariables false
set_option linter.unusedSimpArgs false
theorem eqTime_e (a b : Int) : laws_eqTime.f a b a b = some true := by simp [laws_eqTime.f]
theorem eqTimeS_l (x : List Tm) (hx : x.length ≤ 1152921504606846976) : ∀ n i : Nat, i + n = x.length → Ev (fun k => laws_eqTimeS.l0 k x x i) true := by
 intro n
 induction n with
 | zero =>
  intro i hi
  refine Ev.succ (Ev.all fun k => ?_)
  simp only [laws_eqTimeS.l0]
  rw [if_neg (by omega)]
 | succ n ih =>
  intro i hi
  refine Ev.succ ?_
  simp only [laws_eqTimeS.l0, eqTime_e, Option.bind_some, if_true]
  refine Ev.of (ih (i + 1) (by omega)) (fun k => ?_)
  rw [if_pos (by omega), if_pos (by omega), wnext (by omega) hx]
  simp only [if_pos (show (i : Int) < (x.length : Int) by omega)]
theorem eqTimeS_e (x : List Tm) (hx : x.length ≤ 1152921504606846976) : Ev (fun k => laws_eqTimeS.f k x x) true := by
 simp only [laws_eqTimeS.f, if_true]
 exact eqTimeS_l x hx x.length 0 (by omega)
theorem eqRowS_e (x : List Rw) (hx : x.length ≤ 1152921504606846976) : Ev (fun k => laws_eqRowS.f k x x) true := Ev.all fun k => by rw [laws_eqRowS.f, (eqRwS_iff x x).2 rfl]
theorem eqRowSS_l (x : List (List Rw)) (hx : x.length ≤ 1152921504606846976) (hx2 : ∀ y ∈ x, y.length ≤ 1152921504606846976) : ∀ n i : Nat, i + n = x.length → Ev (fun k => laws_eqRowSS.l0 k x x i) true := by
 intro n
 induction n with
 | zero =>
  intro i hi
  refine Ev.succ (Ev.all fun k => ?_)
  simp only [laws_eqRowSS.l0]
  rw [if_neg (by omega)]
 | succ n ih =>
  intro i hi
  refine Ev.succ ?_
  simp only [laws_eqRowSS.l0]
  have hm : x.getD i [] ∈ x := List.mem_of_getElem? (getD_some (by omega) [])
  refine Ev.of (Ev.bind (g := fun k t => if t = true then laws_eqRowSS.l0 k x x ((i + 1 : Nat) : Int) else some false) (eqRowS_e (x.getD i []) (hx2 _ hm)) (by simpa using ih (i + 1) (by omega))) (fun k => ?_)
  rw [if_pos (by omega), if_pos (by omega), wnext (by omega) hx]
  simp only [if_pos (show (i : Int) < (x.length : Int) by omega)]
  rfl
theorem eqRowSS_e (x : List (List Rw)) (hx : x.length ≤ 1152921504606846976) (hx2 : ∀ y ∈ x, y.length ≤ 1152921504606846976) : Ev (fun k => laws_eqRowSS.f k x x) true := by
 simp only [laws_eqRowSS.f, if_true]
 exact eqRowSS_l x hx hx2 x.length 0 (by omega)
theorem eqSpine_e (x : List (List Rw)) (f : List Tm) (hx : x.length ≤ 1152921504606846976) (hx2 : ∀ y ∈ x, y.length ≤ 1152921504606846976) (hf : f.length ≤ 1152921504606846976) : Ev (fun k => laws_eqSpine.f k x f x f) true := by
 simp only [laws_eqSpine.f]
 refine Ev.bind (eqRowSS_e x hx hx2) ?_
 simp only [if_true]
 refine Ev.bind (eqTimeS_e f hf) ?_
 simp only [if_true]
 exact Ev.pure _
theorem szTimeS_e (l : List Tm) (left : Int) (h0 : 0 ≤ left) (h1 : left ≤ 1048576) (hl : l.length ≤ 9223372036854775807) : laws_szTimeS.f l left = some (if left < l.length then -1 else left - l.length) := by
 unfold laws_szTimeS.f
 have e : wrap64 (left - (l.length : Int)) = left - l.length := by unfold wrap64; omega
 rw [e]
 by_cases h : left < l.length
 ·rw [if_pos (by omega), if_pos h]
 ·rw [if_neg (by omega), if_neg h]
theorem szRowS_e (l : List Rw) (left : Int) (h0 : 0 ≤ left) (h1 : left ≤ 1048576) (hl : l.length ≤ 9223372036854775807) : laws_szRowS.f l left = some (if left < l.length then -1 else left - l.length) := by
 unfold laws_szRowS.f
 have e : wrap64 (left - (l.length : Int)) = left - l.length := by unfold wrap64; omega
 rw [e]
 by_cases h : left < l.length
 ·rw [if_pos (by omega), if_pos h]
 ·rw [if_neg (by omega), if_neg h]
theorem szRowSS_l (x : List (List Rw)) (hx : x.length ≤ 1048576) (hx2 : ∀ y ∈ x, y.length ≤ 9223372036854775807) : ∀ n i : Nat, ∀ left : Int, 0 ≤ left → left ≤ 1048576 → i + n = x.length →
  ∃ r : Int, Ev (fun k => laws_szRowSS.l0 k x left i) r ∧ (r = -1 ∨ 0 ≤ r ∧ r ≤ left ∧ ∀ y ∈ x.drop i, y.length ≤ 1048576) := by
 intro n
 induction n with
 | zero =>
  intro i left h0 h1 hi
  refine ⟨left, Ev.succ (Ev.all fun k => ?_), .inr ⟨h0, Int.le_refl _, ?_⟩⟩
  ·simp only [laws_szRowSS.l0]
   rw [if_neg (by omega)]
  ·rw [List.drop_eq_nil_of_le (by omega)]; intro y hy; cases hy
 | succ n ih =>
  intro i left h0 h1 hi
  have hm : x.getD i [] ∈ x := List.mem_of_getElem? (getD_some (by omega) [])
  have hr : ∀ k, laws_szRowSS.l0 (k + 1) x left i = if left < ((x.getD i []).length : Int) then some (-1) else laws_szRowSS.l0 k x (left - ((x.getD i []).length : Int)) ((i + 1 : Nat) : Int) := fun k => by
   simp only [laws_szRowSS.l0]
   rw [if_pos (by omega), if_pos (by omega), wnext (m := x.length) (by omega) (by omega)]
   show ((laws_szRowS.f (x.getD i []) left).bind _) = _
   rw [szRowS_e _ _ h0 h1 (hx2 _ hm), Option.bind_some]
   by_cases h : left < ((x.getD i []).length : Int)
   ·rw [if_pos h, if_pos h, if_pos (by omega)]
   ·rw [if_neg h, if_neg h, if_neg (by omega)]
  by_cases h : left < ((x.getD i []).length : Int)
  ·exact ⟨-1, Ev.succ (Ev.all fun k => by rw [hr, if_pos h]), .inl rfl⟩
  ·obtain ⟨r, hr1, hr2⟩ := ih (i + 1) (left - ((x.getD i []).length : Int)) (by omega) (by omega) (by omega)
   refine ⟨r, Ev.succ (Ev.of hr1 fun k => by rw [hr, if_neg h]), ?_⟩
   rcases hr2 with hr2 | ⟨ha, hb, hc⟩
   ·exact .inl hr2
   ·refine .inr ⟨ha, by omega, ?_⟩
    rw [getD_drop (by omega) []]
    intro y hy
    rcases List.mem_cons.1 hy with rfl | hy
    ·omega
    ·exact hc y hy
theorem szRowSS_e (x : List (List Rw)) (left : Int) (h0 : 0 ≤ left) (h1 : left ≤ 1048576) (hx : x.length ≤ 9223372036854775807) (hx2 : ∀ y ∈ x, y.length ≤ 9223372036854775807) :
  ∃ r : Int, Ev (fun k => laws_szRowSS.f k x left) r ∧ (r = -1 ∨ 0 ≤ r ∧ r ≤ left ∧ x.length ≤ 1048576 ∧ ∀ y ∈ x, y.length ≤ 1048576) := by
 have e : wrap64 (left - (x.length : Int)) = left - x.length := by unfold wrap64; omega
 simp only [laws_szRowSS.f, e]
 by_cases h : left < x.length
 ·exact ⟨-1, Ev.all fun k => by rw [if_pos (by omega)], .inl rfl⟩
 ·obtain ⟨r, hr1, hr2⟩ := szRowSS_l x (by omega) hx2 x.length 0 (left - x.length) (by omega) (by omega) (by omega)
  refine ⟨r, Ev.of hr1 fun k => by rw [if_neg (by omega)]; rfl, ?_⟩
  rcases hr2 with hr2 | ⟨ha, hb, hc⟩
  ·exact .inl hr2
  ·exact .inr ⟨ha, by omega, by omega, by simpa using hc⟩
theorem szSpine_e (x : List (List Rw)) (f : List Tm) (left : Int) (h0 : 0 ≤ left) (h1 : left ≤ 1048576) (hx : x.length ≤ 9223372036854775807) (hx2 : ∀ y ∈ x, y.length ≤ 9223372036854775807) (hf : f.length ≤ 9223372036854775807) :
  ∃ r : Int, Ev (fun k => laws_szSpine.f k x f left) r ∧ (r = -1 ∨ 0 ≤ r ∧ r ≤ left ∧ x.length ≤ 1048576 ∧ (∀ y ∈ x, y.length ≤ 1048576) ∧ f.length ≤ 1048576) := by
 obtain ⟨r, hr1, hr2⟩ := szRowSS_e x left h0 h1 hx hx2
 simp only [laws_szSpine.f]
 rcases hr2 with rfl | ⟨ha, hb, hc, hd⟩
 ·exact ⟨-1, Ev.bind hr1 (Ev.all fun k => by rw [if_pos (by omega)]), .inl rfl⟩
 ·have e := szTimeS_e f r ha (by omega) hf
  by_cases h : r < f.length
  ·refine ⟨-1, Ev.bind hr1 (Ev.all fun k => ?_), .inl rfl⟩
   rw [if_neg (by omega), e, if_pos h, Option.bind_some, if_pos (by omega)]
  ·refine ⟨r - f.length, Ev.bind hr1 (Ev.all fun k => ?_), .inr ⟨by omega, by omega, hc, hd, by omega⟩⟩
   rw [if_neg (by omega), e, if_neg h, Option.bind_some, if_neg (by omega)]
theorem toTimeS_l (x : List Tm) (hx : x.length ≤ 1048576) : ∀ n i : Nat, i + n = x.length → Ev (fun k => laws_toTimeS.l0 k x (x.take i ++ List.replicate (x.length - i) ⟨0, 0⟩) i) x := by
 intro n
 induction n with
 | zero =>
  intro i hi
  refine Ev.succ (Ev.all fun k => ?_)
  simp only [laws_toTimeS.l0]
  rw [if_neg (by omega), List.take_of_length_le (by omega), show x.length - i = 0 by omega]
  simp
 | succ n ih =>
  intro i hi
  refine Ev.succ ?_
  simp only [laws_toTimeS.l0, laws_toTime.f, Option.bind_some]
  refine Ev.of (ih (i + 1) (by omega)) (fun k => ?_)
  have hl : (i : Int) < ((x.take i ++ List.replicate (x.length - i) (⟨0, 0⟩ : Tm)).length : Int) := by
   rw [List.length_append, List.length_take, List.length_replicate]; omega
  rw [if_pos (by omega), if_pos (by omega), if_pos hl, wnext (m := x.length) (by omega) (by omega)]
  have e := set_next (z := (⟨0, 0⟩ : Tm)) (getD_some (l := x) (i := i) (by omega) (⟨0, 0⟩ : Tm))
  rw [← e]
  rfl
theorem toTimeS_e (x : List Tm) (hx : x.length ≤ 1048576) : Ev (fun k => laws_toTimeS.f k x) x := by
 refine Ev.of (toTimeS_l x hx x.length 0 (by omega)) (fun k => ?_)
 simp only [laws_toTimeS.f]
 rw [if_pos (by omega), if_pos (by omega)]
 rfl
theorem toRowSS_e (x : List (List Rw)) (hx : x.length ≤ 1048576) (hx2 : ∀ y ∈ x, y.length ≤ 1048576) (k : Nat) : laws_toRowSS.f k x = some x := by
 unfold laws_toRowSS.f
 rw [if_pos ⟨by omega, fun y hy => by have := hx2 y hy; omega⟩]
theorem toSpine_e (x : List (List Rw)) (f : List Tm) (hx : x.length ≤ 1048576) (hx2 : ∀ y ∈ x, y.length ≤ 1048576) (hf : f.length ≤ 1048576) : Ev (fun k => laws_toSpine.f k x f) (x, f) := by
 simp only [laws_toSpine.f, toRowSS_e x hx hx2, Option.bind_some]
 exact Ev.bind (toTimeS_e f hf) (Ev.pure _)
theorem rdRw_i (l : List Rw) (i : Nat) (h : i < l.length) : rd_T102 l (i : Int) = l[i] := by simp [rd_T102, List.getD, h]
theorem marks_get (k : Int) (n i : Nat) (h : i < (marks k n).length) : (marks k n)[i] = mark (k + 5 * (i : Int)) := by simp [marks]
theorem heldRowS_l (q : Int) (hq0 : 0 ≤ q) (hq1 : q ≤ 10000000000000) (n : Nat) (hn : n ≤ 1048576) : ∀ m i : Nat, i + m = n → Ev (fun k => laws_heldRowS.l0 k (marks q n) (q + 5 * (i : Int)) i) (q + 5 * (n : Int)) := by
 intro m
 induction m with
 | zero =>
  intro i hi
  refine Ev.succ (Ev.all fun k => ?_)
  simp only [laws_heldRowS.l0]
  rw [marks_len, if_neg (by omega)]
  congr 1; omega
 | succ m ih =>
  intro i hi
  refine Ev.succ ?_
  have hl : i < (marks q n).length := by rw [marks_len]; omega
  refine Ev.of (ih (i + 1) (by omega)) (fun k => ?_)
  have w1 : wrap64 (q + 5 * (i : Int) + 1) = q + 5 * (i : Int) + 1 := by unfold wrap64; omega
  have w2 : wrap64 (q + 5 * (i : Int) + 1 + 1) = q + 5 * (i : Int) + 2 := by unfold wrap64; omega
  have w3 : wrap64 (q + 5 * (i : Int) + 2 + 1) = q + 5 * (i : Int) + 3 := by unfold wrap64; omega
  have w4 : wrap64 (q + 5 * (i : Int) + 3 + 1) = q + 5 * (i : Int) + 4 := by unfold wrap64; omega
  have w5 : wrap64 (q + 5 * (i : Int) + 4 + 1) = q + 5 * ((i + 1 : Nat) : Int) := by unfold wrap64; omega
  simp only [laws_heldRowS.l0]
  rw [rdRw_i _ _ hl, marks_get, w1, w2, w3, w4, w5, wnext (m := n) (by omega) (by omega)]
  simp only [mark]
  rw [if_pos (by rw [marks_len]; omega), if_pos (by omega), if_pos trivial, if_pos trivial, if_pos trivial, if_pos trivial, if_pos trivial]
theorem heldRowS_q (q : Int) (hq0 : 0 ≤ q) (hq1 : q ≤ 10000000000000) (n : Nat) (hn : n ≤ 1048576) : Ev (fun k => laws_heldRowS.f k (marks q n) q) (q + 5 * (n : Int)) := by
 have := heldRowS_l q hq0 hq1 n hn n 0 (by omega)
 simpa [laws_heldRowS.f] using this
theorem marksL_get : ∀ (ls : List (List Rw)) (q : Int) (i : Nat) (h : i < ls.length), (marksL q ls).getD i [] = marks (q + 5 * (many (ls.take i) : Int)) (ls.getD i []).length
 | [], q, i, h => by simp at h
 | l :: ls, q, 0, h => by simp [marksL, many]
 | l :: ls, q, i + 1, h => by
  have := marksL_get ls (q + 5 * (l.length : Int)) i (by simpa using h)
  rw [marksL, List.getD_cons_succ, this, List.take_succ_cons, many, List.getD_cons_succ]
  congr 1; omega
theorem heldRowSS_l (ls : List (List Rw)) (q : Int) (hq0 : 0 ≤ q) (hq1 : q + 5 * (many ls : Int) ≤ 10000000000000) (hl : ls.length ≤ 1048576) (hls : ∀ y ∈ ls, y.length ≤ 1048576) : ∀ m i : Nat, i + m = ls.length → Ev (fun k => laws_heldRowSS.l0 k (marksL q ls) (q + 5 * (many (ls.take i) : Int)) i) (q + 5 * (many ls : Int)) := by
 intro m
 induction m with
 | zero =>
  intro i hi
  refine Ev.succ (Ev.all fun k => ?_)
  simp only [laws_heldRowSS.l0]
  rw [marksL_len, if_neg (by omega), List.take_of_length_le (by omega)]
 | succ m ih =>
  intro i hi
  have hi' : i < ls.length := by omega
  have hs := getD_some hi' ([] : List Rw)
  have hm := hls _ (List.mem_of_getElem? hs)
  have ht : ls.take (i + 1) = ls.take i ++ [ls.getD i []] := by rw [List.take_add_one, hs]; rfl
  have hb := mass_take ls i hi'
  have H := ih (i + 1) (by omega)
  rw [ht, mass_snoc] at H
  refine Ev.succ ?_
  have E := heldRowS_q (q + 5 * (many (ls.take i) : Int)) (by omega) (by omega) (ls.getD i []).length hm
  rw [← marksL_get ls q i hi'] at E
  refine Ev.of (Ev.bind (g := fun k t => if t < 0 then some (-1) else laws_heldRowSS.l0 k (marksL q ls) t ((i + 1 : Nat) : Int)) E (Ev.of H fun k => ?_)) (fun k => ?_)
  ·rw [if_neg (by omega)]
   congr 1; omega
  ·simp only [laws_heldRowSS.l0]
   rw [marksL_len, if_pos (by omega), if_pos (by omega), wnext (m := ls.length) (by omega) (by omega)]
   rfl
theorem heldTimeS_l (q : Int) (hq0 : 0 ≤ q) (hq1 : q ≤ 10000000000000) (n : Nat) (hn : n ≤ 1048576) : ∀ m i : Nat, i + m = n → Ev (fun k => laws_heldTimeS.l0 k (marksT q n) (q + 2 * (i : Int)) i) (q + 2 * (n : Int)) := by
 intro m
 induction m with
 | zero =>
  intro i hi
  refine Ev.succ (Ev.all fun k => ?_)
  simp only [laws_heldTimeS.l0]
  rw [marksT_len, if_neg (by omega)]
  congr 1; omega
 | succ m ih =>
  intro i hi
  refine Ev.succ ?_
  have hl : i < (marksT q n).length := by rw [marksT_len]; omega
  have hg : rd_T43 (marksT q n) (i : Int) = markT (q + 2 * (i : Int)) := by
   have e : rd_T43 (marksT q n) (i : Int) = (marksT q n)[i] := by simp [rd_T43, List.getD, hl]
   rw [e]; simp [marksT]
  refine Ev.of (ih (i + 1) (by omega)) (fun k => ?_)
  have w1 : wrap64 (q + 2 * (i : Int) + 1) = q + 2 * (i : Int) + 1 := by unfold wrap64; omega
  have w2 : wrap64 (q + 2 * (i : Int) + 1 + 1) = q + 2 * ((i + 1 : Nat) : Int) := by unfold wrap64; omega
  simp only [laws_heldTimeS.l0]
  rw [hg, w1, w2, wnext (m := n) (by omega) (by omega)]
  simp only [markT]
  rw [if_pos (by rw [marksT_len]; omega), if_pos (by omega), if_pos trivial, if_pos trivial]
theorem heldSpine_e (ls : List (List Rw)) (f : List Tm) (q : Int) (hq0 : 0 ≤ q) (hq1 : q + 5 * (many ls : Int) + 2 * (f.length : Int) ≤ 10000000000000) (hl : ls.length ≤ 1048576) (hls : ∀ y ∈ ls, y.length ≤ 1048576) (hf : f.length ≤ 1048576) :
  Ev (fun k => laws_heldSpine.f k (marksL q ls) (marksT (q + 5 * (many ls : Int)) f.length) q) (q + 5 * (many ls : Int) + 2 * (f.length : Int)) := by
 have A := heldRowSS_l ls q hq0 (by omega) hl hls ls.length 0 (by omega)
 have B := heldTimeS_l (q + 5 * (many ls : Int)) (by omega) (by omega) f.length hf f.length 0 (by omega)
 simp only [laws_heldSpine.f, laws_heldRowSS.f, laws_heldTimeS.f]
 refine Ev.bind (a := q + 5 * (many ls : Int)) (by simpa [many] using A) ?_
 simp only [if_neg (show ¬ q + 5 * (many ls : Int) < 0 by omega)]
 refine Ev.bind (a := q + 5 * (many ls : Int) + 2 * (f.length : Int)) (by simpa using B) ?_
 simp only [if_neg (show ¬ q + 5 * (many ls : Int) + 2 * (f.length : Int) < 0 by omega)]
 exact Ev.pure _
theorem many_le {c : Nat} : ∀ {ls : List (List Rw)}, (∀ y ∈ ls, y.length ≤ c) → many ls ≤ c * ls.length
 | [], _ => by simp [many]
 | l :: ls, h => by
  have h1 := many_le (c := c) (ls := ls) (fun y hy => h y (by simp [hy]))
  have h2 := h l (by simp)
  rw [many, List.length_cons, Nat.mul_succ]; omega
theorem c_toSpine (u v : Value) (ls : List (List Rw)) (f : List Tm) (w : World) (hu : Sl (Kd.slice 132 kRw) w u ls) (hv : Sl kTm w v f) (hl : ls.length ≤ 1048576) (hls : ∀ y ∈ ls, y.length ≤ 1048576) (hf : f.length ≤ 1048576) :
  Calls Try.prog 48 #[.agg #[u, v]] w fun e w' => ∃ a b : Value, e = .returned (.agg #[a, b]) ∧ Kd.S (Kd.slice 102 kRw) 27 w' w.heap.size okT a ls ∧ kTm.R 43 w' w.heap.size okT b f ∧ Below w.heap.size w w' := by
 obtain ⟨A, c, rfl, hc, hr⟩ := hu
 obtain ⟨A2, c2, rfl, hc2, hr2⟩ := hv
 obtain ⟨k, hk⟩ := Ev.get (toSpine_e ls f hl hls hf)
 exact laws_toSpine.calls k A c ls A2 c2 f ls f w hr hc hr2 hc2 hk
theorem c_eqSpine (u v u2 v2 : Value) (ls : List (List Rw)) (f : List Tm) (w : World) (hu : Sl (Kd.slice 102 kRw) w u ls) (hv : Sl kTm w v f) (hu2 : Sl (Kd.slice 102 kRw) w u2 ls) (hv2 : Sl kTm w v2 f) (hl : ls.length ≤ 1048576) (hls : ∀ y ∈ ls, y.length ≤ 1048576) (hf : f.length ≤ 1048576) :
  Calls Try.prog 50 #[.agg #[u, v], .agg #[u2, v2]] w (RetV w (.bool true)) := by
 obtain ⟨A, c, rfl, hc, hr⟩ := hu
 obtain ⟨A2, c2, rfl, hc2, hr2⟩ := hv
 obtain ⟨A3, c3, rfl, hc3, hr3⟩ := hu2
 obtain ⟨A4, c4, rfl, hc4, hr4⟩ := hv2
 obtain ⟨k, hk⟩ := Ev.get (eqSpine_e ls f (by omega) (fun y hy => by have := hls y hy; omega) (by omega))
 exact laws_eqSpine.calls k A c ls A2 c2 f A3 c3 ls A4 c4 f true w hr hc hr2 hc2 hr3 hc3 hr4 hc4 hk
theorem c_heldSpine (u v : Value) (ls : List (List Rw)) (f : List Tm) (w : World) (hu : Sl (Kd.slice 102 kRw) w u (marksL 1 ls)) (hv : Sl kTm w v (marksT (1 + 5 * (many ls : Int)) f.length)) (hl : ls.length ≤ 1048576) (hls : ∀ y ∈ ls, y.length ≤ 1048576) (hf : f.length ≤ 1048576) :
  Calls Try.prog 54 #[.agg #[u, v], .int .i64 1] w (RetV w (.int .i64 (1 + 5 * (many ls : Int) + 2 * (f.length : Int)))) := by
 obtain ⟨A, c, rfl, hc, hr⟩ := hu
 obtain ⟨A2, c2, rfl, hc2, hr2⟩ := hv
 have hm := many_le hls
 have hm2 := Nat.mul_le_mul_left 1048576 hl
 obtain ⟨k, hk⟩ := Ev.get (heldSpine_e ls f 1 (by omega) (by omega) hl hls hf)
 exact laws_heldSpine.calls k A c _ A2 c2 _ 1 _ w hr hc hr2 hc2 hk
def SpL (w : World) (a b : Value) (ls : List (List Rw)) (f : List Tm) : Prop := Sl (Kd.slice 132 kRw) w a ls ∧ Sl kTm w b f
theorem SpL.below {w w' : World} {a b : Value} {ls : List (List Rw)} {f : List Tm} (h : SpL w a b ls f) (hb : Below w.heap.size w w') : SpL w' a b ls f := ⟨h.1.below hb, h.2.below hb⟩
theorem laws_toSpine (u v : Value) (ls : List (List Rw)) (f : List Tm) (w : World) (h : SpL w u v ls f) (hb : SpB ls f) : Calls Try.prog 48 #[.agg #[u, v]] w (SpP w ls f) := by
 refine (c_toSpine u v ls f w h.1 h.2 hb.l hb.ls hb.f).mono ?_
 rintro e w' ⟨a, b, rfl, h1, h2, h3⟩
 exact ⟨a, b, rfl, ⟨h1, h2⟩, h3⟩
theorem laws_szSpine (ls : List (List Rw)) (f : List Tm) (left : Int) (h0 : 0 ≤ left) (h1 : left ≤ 1048576) (hl : ls.length ≤ 9223372036854775807) (hls : ∀ y ∈ ls, y.length ≤ 9223372036854775807) (hf : f.length ≤ 9223372036854775807) :
  ∃ r : Int, (r = -1 ∨ 0 ≤ r ∧ r ≤ left ∧ SpB ls f) ∧ ∀ u v w, SpL w u v ls f → Calls Try.prog 46 #[.agg #[u, v], .int .i64 left] w (RetV w (.int .i64 r)) := by
 obtain ⟨r, hE, hp⟩ := szSpine_e ls f left h0 h1 hl hls hf
 obtain ⟨k, hk⟩ := Ev.get hE
 refine ⟨r, hp.imp id (fun h => ⟨h.1, h.2.1, ⟨h.2.2.1, h.2.2.2.1, h.2.2.2.2⟩⟩), fun u v w h => ?_⟩
 obtain ⟨⟨A, c, rfl, hc, hr⟩, A2, c2, rfl, hc2, hr2⟩ := h
 exact laws_szSpine.calls k A c ls A2 c2 f left r w hr hc hr2 hc2 hk
theorem laws_eqSpine (u v u2 v2 : Value) (ls : List (List Rw)) (f : List Tm) (w : World) (h : SpS w u v ls f) (h2 : SpS w u2 v2 ls f) (hb : SpB ls f) : Calls Try.prog 50 #[.agg #[u, v], .agg #[u2, v2]] w (RetV w (.bool true)) := c_eqSpine u v u2 v2 ls f w h.1 h.2 h2.1 h2.2 hb.l hb.ls hb.f
theorem laws_heldSpine (u v : Value) (ls : List (List Rw)) (f : List Tm) (w : World) (h : SpS w u v (marksL 1 ls) (marksT (1 + 5 * (many ls : Int)) f.length)) (hb : SpB ls f) : Calls Try.prog 54 #[.agg #[u, v], .int .i64 1] w (RetV w (.int .i64 (1 + 5 * (many ls : Int) + 2 * (f.length : Int)))) := c_heldSpine u v ls f w h.1 h.2 hb.l hb.ls hb.f
def SpW (w : World) (base : Nat) (P0 P1 : Nat → Prop) (a b : Value) (ls : List (List Rw)) (f : List Tm) : Prop := Kd.S (Kd.slice 102 kRw) 27 w base P0 a ls ∧ kTm.R 43 w base P1 b f
theorem SpW.s {w : World} {base : Nat} {P0 P1 : Nat → Prop} {a b : Value} {ls : List (List Rw)} {f : List Tm} (h : SpW w base P0 P1 a b ls f) : SpS w a b ls f := by
 obtain ⟨A, c, rfl, h1, h2⟩ := Kd.S_reads h.1
 exact ⟨⟨A, c, rfl, h1, h2⟩, Sl.of_R h.2⟩
theorem SpW.below {w w' : World} {base : Nat} {P0 P1 : Nat → Prop} {a b : Value} {ls : List (List Rw)} {f : List Tm} (h : SpW w base P0 P1 a b ls f) (hb : Below w.heap.size w w') : SpW w' base P0 P1 a b ls f := ⟨Kd.S_below h.1 hb, Kd.R_below h.2 hb⟩
theorem SpW.lower {w : World} {base base' : Nat} {P0 P1 : Nat → Prop} {a b : Value} {ls : List (List Rw)} {f : List Tm} (h : SpW w base P0 P1 a b ls f) (hb : base' ≤ base) : SpW w base' P0 P1 a b ls f := ⟨Kd.S_lower h.1 hb, Kd.R_lower h.2 hb⟩
theorem SpW.kept {w w' : World} {base : Nat} {P0 P1 S : Nat → Prop} {a b : Value} {ls : List (List Rw)} {f : List Tm} (h : SpW w base P0 P1 a b ls f) (hk : Kept w w' S) (hn : ∀ q, P0 q ∨ P1 q → ¬ S q) : SpW w' base P0 P1 a b ls f := ⟨Kd.S_kept h.1 hk (fun q hq => hn q (.inl hq)), Kd.R_kept h.2 hk (fun q hq => hn q (.inr hq))⟩
theorem SpO.split {w : World} {base : Nat} {a b : Value} {ls : List (List Rw)} {f : List Tm} (h : SpO w base a b ls f) : ∃ P0 P1 : Nat → Prop, SpW w base P0 P1 a b ls f ∧ (∀ q, P0 q → ¬ P1 q) ∧ ∀ q, P0 q ∨ P1 q → base ≤ q ∧ q < w.heap.size := by
 refine ⟨_, _, ⟨Kd.S_bound h.1, Kd.R_bound h.2⟩, ?_, ?_⟩
 ·rintro q ⟨_, _, _, t, ht, c, e⟩ ⟨_, _, _, t2, ht2, c2, e2⟩
  have : t = t2 := by rw [e] at e2; injection e2 with e2; injection e2 with _ e2 _
  subst this
  revert ht ht2
  show t ∈ 27 :: [102] → t ∈ 43 :: [] → False
  intro h1 h2
  simp only [List.mem_cons, List.not_mem_nil, or_false] at h1 h2
  omega
 ·rintro q (⟨_, h1, h2, _⟩ | ⟨_, h1, h2, _⟩) <;> exact ⟨h1, h2⟩
theorem laws_markSpineW (P0 P1 : Nat → Prop) (u v : Value) (ls : List (List Rw)) (f : List Tm) (w0 w : World) (hB : Below w0.heap.size w0 w) (h : SpW w w0.heap.size P0 P1 u v ls f) (hap : ∀ q, P0 q → ¬ P1 q) (hb : SpB ls f) :
  Calls Try.prog 52 #[.agg #[u, v], .int .i64 1] w fun e w' => e = .returned (.int .i64 (1 + 5 * (many ls : Int) + 2 * (f.length : Int))) ∧ SpW w' w0.heap.size P0 P1 u v (marksL 1 ls) (marksT (1 + 5 * (many ls : Int)) f.length) ∧ Below w0.heap.size w0 w' ∧ Kept w w' (fun q => P0 q ∨ P1 q) := by
 have hm := many_le hb.ls
 have hm2 := Nat.mul_le_mul_left 1048576 hb.l
 have hf := hb.f
 refine (laws_markSpine P0 P1 u v ls f 1 w0 w hB h.1 h.2 hap (by omega) (by omega)).mono ?_
 rintro e w' ⟨rfl, h1, h2, h3, h4⟩
 exact ⟨rfl, ⟨h1, h2⟩, h3, h4⟩
theorem kept_cell {w w' : World} {S : Nat → Prop} (hk : Kept w w' S) {ad : Addr} {x : Value} (h : w.cell? ad = some x) (hn : ¬ S ad.block) : w'.cell? ad = some x := by
 have hlt : ad.block < w.heap.size := by
  apply Classical.byContradiction
  intro hc
  have e : w.heap[ad.block]? = none := Array.getElem?_eq_none (by omega)
  unfold World.cell? at h
  rw [e] at h
  cases h
 have e := hk.2 ad.block hlt hn
 unfold World.cell? at h ⊢
 rw [e]
 exact h
end Go.Proofs.Ytkdendlgaaimbaa.X
