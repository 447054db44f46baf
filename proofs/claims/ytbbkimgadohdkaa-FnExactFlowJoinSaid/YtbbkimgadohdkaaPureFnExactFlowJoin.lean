/- Proved: the printed form of FnExactFlowJoin answers true for any two slices of rows, with enough rounds. Conditions: that the slices are no longer than a slice can be. -/
import Derived.Test.YtbbkimgadohdkaaPFnExactFlowJoinx0
import Derived.Test.YtbbkimgadohdkaaPFnExactFlowJoinx1
import Derived.Test.YtbbkimgadohdkaaPFnExactFlowJoinx2
import Derived.Test.YtbbkimgadohdkaaPFnExactFlowJoinx3
import Derived.Test.YtbbkimgadohdkaaXEv
namespace Go.Proofs.Ytbbkimgadohdkaa.Pure
open Go.RowKit Go.Proofs.Ytbbkimgadohdkaa.PFnExactFlowJoin Go.Proofs.YtbbkimgadohdkaaW.PrintWords
set_option linter.unusedVariables false
set_option linter.unusedSimpArgs false

/-! the copies, the sizes, the comparisons -/
theorem eqRowS_e (x : List X.Rw) (hx : x.length ≤ 1152921504606846976) : X.Ev (fun k => laws_eqRowS.f k x x) true := X.Ev.all fun k => by rw [laws_eqRowS.f, (X.eqRwS_iff x x).2 rfl]
theorem szRowS_e (l : List X.Rw) (left : Int) (h0 : 0 ≤ left) (h1 : left ≤ 1048576) (hl : l.length ≤ 9223372036854775807) : laws_szRowS.f l left = some (if left < l.length then -1 else left - l.length) := by
  unfold laws_szRowS.f
  have e : wrap64 (left - (l.length : Int)) = left - l.length := by unfold wrap64; omega
  rw [e]
  by_cases h : left < l.length
  · rw [if_pos (by omega), if_pos h]
  · rw [if_neg (by omega), if_neg h]

/-! rows: the marks -/
theorem rdRw_i (l : List X.Rw) (i : Nat) (h : i < l.length) : rd_T56 l (i : Int) = l[i] := by simp [rd_T56, List.getD, h]
theorem marks_get (k : Int) (n i : Nat) (h : i < (X.marks k n).length) : (X.marks k n)[i] = X.mark (k + 5 * (i : Int)) := by simp [X.marks]
theorem heldRowS_l (n : Nat) (hn : n ≤ 1048576) : ∀ m i : Nat, i + m = n → X.Ev (fun k => laws_heldRowS.l0 k (X.marks 1 n) (1 + 5 * (i : Int)) i) (1 + 5 * (n : Int)) := by
  intro m
  induction m with
  | zero =>
    intro i hi
    refine X.Ev.succ (X.Ev.all fun k => ?_)
    simp only [laws_heldRowS.l0]
    rw [X.marks_len, if_neg (by omega)]
    congr 1; omega
  | succ m ih =>
    intro i hi
    refine X.Ev.succ ?_
    have hl : i < (X.marks 1 n).length := by rw [X.marks_len]; omega
    refine X.Ev.of (ih (i + 1) (by omega)) (fun k => ?_)
    have w1 : wrap64 (1 + 5 * (i : Int) + 1) = 1 + 5 * (i : Int) + 1 := by unfold wrap64; omega
    have w2 : wrap64 (1 + 5 * (i : Int) + 1 + 1) = 1 + 5 * (i : Int) + 2 := by unfold wrap64; omega
    have w3 : wrap64 (1 + 5 * (i : Int) + 2 + 1) = 1 + 5 * (i : Int) + 3 := by unfold wrap64; omega
    have w4 : wrap64 (1 + 5 * (i : Int) + 3 + 1) = 1 + 5 * (i : Int) + 4 := by unfold wrap64; omega
    have w5 : wrap64 (1 + 5 * (i : Int) + 4 + 1) = 1 + 5 * ((i + 1 : Nat) : Int) := by unfold wrap64; omega
    simp only [laws_heldRowS.l0]
    rw [rdRw_i _ _ hl, marks_get, w1, w2, w3, w4, w5, X.wnext (m := n) (by omega) (by omega)]
    simp only [X.mark]
    rw [if_pos (by rw [X.marks_len]; omega), if_pos (by omega), if_pos trivial, if_pos trivial, if_pos trivial, if_pos trivial, if_pos trivial]
theorem heldRowS_e (n : Nat) (hn : n ≤ 1048576) : X.Ev (fun k => laws_heldRowS.f k (X.marks 1 n) 1) (1 + 5 * (n : Int)) := by
  have := heldRowS_l n hn n 0 (by omega)
  simpa [laws_heldRowS.f] using this
theorem markRowS_e (x : List X.Rw) (hx : x.length ≤ 1048576) (k : Nat) : laws_markRowS.f k x 1 = some (1 + 5 * (x.length : Int), X.marks 1 x.length) := by
  unfold laws_markRowS.f
  rw [if_pos ⟨by omega, by omega⟩]
theorem markRowS_q (x : List X.Rw) (q : Int) (hx : x.length ≤ 1048576) (h0 : 0 ≤ q) (h1 : q ≤ 1000000000000) (k : Nat) : laws_markRowS.f k x q = some (q + 5 * (x.length : Int), X.marks q x.length) := by
  unfold laws_markRowS.f
  rw [if_pos ⟨by omega, by omega⟩]
theorem toRowS_e (x : List X.Rw) (hx : x.length ≤ 1048576) (k : Nat) : laws_toRowS.f k x = some x := by
  unfold laws_toRowS.f
  rw [if_pos (by omega)]
theorem batch_e (l : List X.Rw) (hf : l.all X.fitRw = true) (hl : l.length < 1099511627776) (k : Nat) : impl_batch.f k l = some (X.fit (X.sum l), X.batchOk (X.sum l)) := by
  unfold impl_batch.f impl_consolidated.f impl_BatchOk.f
  rw [if_pos ⟨hf, hl⟩, Option.bind_some, Option.bind_some]
  unfold X.fit
  cases h : X.batchOk (X.sum l) <;> rfl
theorem rowsOk_all {l : List X.Rw} (h : X.rowsOk l = true) : l.length ≤ 400 ∧ ∀ r ∈ l, X.rowOk r = true := by
  simp only [X.rowsOk, Bool.and_eq_true, decide_eq_true_eq, List.all_eq_true] at h
  exact ⟨h.2, h.1⟩
theorem rowOk_in {r : X.Rw} (h : X.rowOk r = true) : (0 ≤ r.f0 ∧ r.f0 < 4) ∧ (0 ≤ r.f1 ∧ r.f1 < 100) ∧ (0 ≤ r.f2.f0 ∧ r.f2.f0 ≤ 7) ∧ (0 ≤ r.f2.f1 ∧ r.f2.f1 ≤ 7) ∧ (-99999 ≤ r.f3 ∧ r.f3 ≤ 99999) := by
  simp only [X.rowOk, X.tOk, Bool.and_eq_true, decide_eq_true_eq] at h
  omega
theorem fitRw_of {a b c d e : Int} (h0 : -1099511627776 ≤ a ∧ a ≤ 1099511627776) (h1 : -1099511627776 ≤ b ∧ b ≤ 1099511627776) (h2 : -1099511627776 ≤ c ∧ c ≤ 1099511627776) (h3 : -1099511627776 ≤ d ∧ d ≤ 1099511627776) (h4 : -1099511627776 ≤ e ∧ e ≤ 1099511627776) : X.fitRw ⟨a, b, ⟨c, d⟩, e⟩ = true := by
  have e0 := (X.wfI_iff a).2 (by omega)
  have e1 := (X.wfI_iff b).2 (by omega)
  have e2 := (X.wfI_iff c).2 (by omega)
  have e3 := (X.wfI_iff d).2 (by omega)
  have e4 := (X.wfI_iff e).2 (by omega)
  unfold X.wfI at e0 e1 e2 e3 e4
  simp [X.fitRw, e0, e1, e2, e3, e4]
theorem fitRw_wide {a b c d e : Int} (h0 : -9223372036854775808 ≤ a ∧ a ≤ 9223372036854775807) (h1 : -9223372036854775808 ≤ b ∧ b ≤ 9223372036854775807) (h2 : -9223372036854775808 ≤ c ∧ c ≤ 9223372036854775807) (h3 : -9223372036854775808 ≤ d ∧ d ≤ 9223372036854775807) (h4 : -9223372036854775808 ≤ e ∧ e ≤ 9223372036854775807) : X.fitRw ⟨a, b, ⟨c, d⟩, e⟩ = true := by
  have e0 := (X.wfI_iff a).2 h0
  have e1 := (X.wfI_iff b).2 h1
  have e2 := (X.wfI_iff c).2 h2
  have e3 := (X.wfI_iff d).2 h3
  have e4 := (X.wfI_iff e).2 h4
  unfold X.wfI at e0 e1 e2 e3 e4
  simp [X.fitRw, e0, e1, e2, e3, e4]
theorem nonZero_len (x : List X.Rw) : (X.nonZero x).length ≤ x.length := List.length_filter_le _ _
theorem put_len (r : X.Rw) : ∀ S : List X.Rw, (X.put r S).length ≤ S.length + 1
  | [] => by simp [X.put]
  | x :: xs => by
    have := put_len r xs
    rw [X.put]
    split
    · simp
    · split
      · simp
      · simp; omega
theorem putAll_len : ∀ (l S : List X.Rw), (X.putAll S l).length ≤ S.length + l.length
  | [], S => by simp [X.putAll]
  | r :: l, S => by
    have h1 := putAll_len l (X.put r S)
    have h2 := put_len r S
    rw [X.putAll, List.length_cons]; omega
theorem sum_len (l : List X.Rw) : (X.sum l).length ≤ l.length := by
  have h1 := nonZero_len (X.putAll [] l)
  have h2 := putAll_len l []
  unfold X.sum; simp at h2; omega
theorem fit_len (l : List X.Rw) : (X.fit l).length ≤ l.length := by unfold X.fit; split <;> simp

/-! rows paired -/
theorem rdRw_at (l : List X.Rw) (i : Nat) (h : i < l.length) : l.drop i = rd_T56 l (i : Int) :: l.drop (i + 1) := by
  rw [X.getD_drop h z56]; simp [rd_T56]
theorem rdRw_mem {l : List X.Rw} {i : Nat} (h : i < l.length) : rd_T56 l (i : Int) ∈ l := by
  have := X.getD_some (l := l) (i := i) h z56
  exact List.mem_of_getElem? (by simpa [rd_T56] using this)
/-- what is made of two rows -/
def pR (r s : X.Rw) : List X.Rw := if r.f0 = s.f0 then [⟨r.f0, Int.tmod (wrap64 ((wrap64 (10 * r.f1)) + s.f1)) 100, ⟨(X.tJoin ⟨r.f2.f0, r.f2.f1⟩ ⟨s.f2.f0, s.f2.f1⟩).f0, (X.tJoin ⟨r.f2.f0, r.f2.f1⟩ ⟨s.f2.f0, s.f2.f1⟩).f1⟩, wrap64 (r.f3 * s.f3)⟩] else []
theorem pR_fit {r s : X.Rw} (hr : X.rowOk r = true) (hs : X.rowOk s = true) : (pR r s).all X.fitRw = true := by
  have h1 := rowOk_in hr
  have h2 := rowOk_in hs
  have w1 : wrap64 (10 * r.f1) = 10 * r.f1 := by unfold wrap64; omega
  have w2 : wrap64 (10 * r.f1 + s.f1) = 10 * r.f1 + s.f1 := by unfold wrap64; omega
  have w3 : Int.tmod (10 * r.f1 + s.f1) 100 = (10 * r.f1 + s.f1) % 100 := Int.tmod_eq_emod_of_nonneg (by omega)
  have w4 : ∀ z : Int, -9223372036854775808 ≤ wrap64 z ∧ wrap64 z ≤ 9223372036854775807 := fun z => by unfold wrap64; omega
  have w5 : (0 ≤ (X.tJoin ⟨r.f2.f0, r.f2.f1⟩ ⟨s.f2.f0, s.f2.f1⟩).f0 ∧ (X.tJoin ⟨r.f2.f0, r.f2.f1⟩ ⟨s.f2.f0, s.f2.f1⟩).f0 ≤ 7) ∧ (0 ≤ (X.tJoin ⟨r.f2.f0, r.f2.f1⟩ ⟨s.f2.f0, s.f2.f1⟩).f1 ∧ (X.tJoin ⟨r.f2.f0, r.f2.f1⟩ ⟨s.f2.f0, s.f2.f1⟩).f1 ≤ 7) := by
    unfold X.tJoin X.tmax
    split
    · dsimp only; constructor <;> split <;> omega
    · dsimp only; omega
  unfold pR
  split
  · rw [w1, w2, w3]
    simp only [List.all_cons, List.all_nil, Bool.and_true]
    exact fitRw_wide (by omega) (by omega) (by omega) (by omega) (w4 _)
  · rfl
theorem pR_len (r : X.Rw) : ∀ t : List X.Rw, (t.flatMap (pR r)).length ≤ t.length
  | [] => by simp
  | x :: t => by
    have h1 := pR_len r t
    have h2 : (pR r x).length ≤ 1 := by unfold pR; split <;> simp
    rw [List.flatMap_cons, List.length_append, List.length_cons]; omega
theorem all_flat {α β : Type} {p : β → Bool} {f : α → List β} : ∀ {l : List α}, (∀ x ∈ l, (f x).all p = true) → (l.flatMap f).all p = true
  | [], _ => rfl
  | x :: l, h => by rw [List.flatMap_cons, List.all_append, h x (by simp), all_flat (fun y hy => h y (by simp [hy]))]; rfl
theorem prs_len (t : List X.Rw) : ∀ l : List X.Rw, (l.flatMap fun r => t.flatMap (pR r)).length ≤ t.length * l.length
  | [] => by simp
  | x :: l => by
    have h1 := prs_len t l
    have h2 := pR_len x t
    rw [List.flatMap_cons, List.length_append, List.length_cons, Nat.mul_succ]; omega
theorem fJoin_1 {t l : List X.Rw} (ht : t.length ≤ 400) {m i : Int} (r : X.Rw) {R : List X.Rw × Bool} : ∀ n j : Nat, ∀ acc : List X.Rw, j + n = t.length → acc.length + n ≤ 1000000 →
    X.Ev (fun k => impl_flowJoin.l0 k t (acc ++ (t.drop j).flatMap (pR r)) l m (wrap64 (i + 1))) R → X.Ev (fun k => impl_flowJoin.l1 k t acc l m i t t.length j r.f0 r.f1 r.f2.f0 r.f2.f1 r.f3) R := by
  intro n
  induction n with
  | zero =>
    intro j acc hj ha H
    refine X.Ev.succ ?_
    rw [List.drop_eq_nil_of_le (by omega), List.flatMap_nil, List.append_nil] at H
    refine X.Ev.of H (fun k => ?_)
    simp only [impl_flowJoin.l1]
    rw [if_neg (by omega)]
  | succ n ih =>
    intro j acc hj ha H
    rw [rdRw_at t j (by omega), List.flatMap_cons] at H
    refine X.Ev.succ ?_
    by_cases e : r.f0 = (rd_T56 t (j : Int)).f0
    · have hE : pR r (rd_T56 t (j : Int)) = [⟨r.f0, Int.tmod (wrap64 ((wrap64 (10 * r.f1)) + (rd_T56 t (j : Int)).f1)) 100, ⟨(X.tJoin ⟨r.f2.f0, r.f2.f1⟩ ⟨(rd_T56 t (j : Int)).f2.f0, (rd_T56 t (j : Int)).f2.f1⟩).f0, (X.tJoin ⟨r.f2.f0, r.f2.f1⟩ ⟨(rd_T56 t (j : Int)).f2.f0, (rd_T56 t (j : Int)).f2.f1⟩).f1⟩, wrap64 (r.f3 * (rd_T56 t (j : Int)).f3)⟩] := if_pos e
      rw [hE, ← List.append_assoc] at H
      have H2 := ih (j + 1) _ (by omega) (by simp; omega) H
      refine X.Ev.of H2 (fun k => ?_)
      simp only [impl_flowJoin.l1]
      rw [if_pos (by omega), if_pos (by omega), if_pos (by omega), if_pos e, X.wnext (m := t.length) (by omega) (by omega)]
      simp only [impl_joinedVal.f, impl_TimeJoin.f, Option.bind_some]
      rw [if_pos (by omega)]
    · have hE : pR r (rd_T56 t (j : Int)) = [] := if_neg e
      rw [hE, List.nil_append] at H
      have H2 := ih (j + 1) acc (by omega) (by omega) H
      refine X.Ev.of H2 (fun k => ?_)
      simp only [impl_flowJoin.l1]
      rw [if_pos (by omega), if_pos (by omega), if_pos (by omega), if_neg e, X.wnext (m := t.length) (by omega) (by omega)]
theorem fJoin_0 {l t : List X.Rw} (hl : l.length ≤ 400) (ht : t.length ≤ 400) (hok : ∀ r ∈ l, X.rowOk r = true) (hok2 : ∀ r ∈ t, X.rowOk r = true) : ∀ n i : Nat, ∀ acc : List X.Rw, i + n = l.length → acc.length ≤ 400 * i → acc.all X.fitRw = true →
    X.Ev (fun k => impl_flowJoin.l0 k t acc l l.length i) (X.fit (X.sum (acc ++ (l.drop i).flatMap fun r => t.flatMap (pR r))), X.batchOk (X.sum (acc ++ (l.drop i).flatMap fun r => t.flatMap (pR r)))) := by
  intro n
  induction n with
  | zero =>
    intro i acc hi ha hf
    refine X.Ev.succ (X.Ev.all fun k => ?_)
    simp only [impl_flowJoin.l0]
    rw [if_neg (by omega), List.drop_eq_nil_of_le (by omega), batch_e acc hf (by omega)]
    simp
  | succ n ih =>
    intro i acc hi ha hf
    have hi' : i < l.length := by omega
    have hr := hok _ (rdRw_mem hi')
    have hp := pR_len (rd_T56 l (i : Int)) t
    rw [rdRw_at l i hi', List.flatMap_cons, ← List.append_assoc]
    have H := ih (i + 1) (acc ++ t.flatMap (pR (rd_T56 l (i : Int)))) (by omega) (by rw [List.length_append]; omega) (by rw [List.all_append, hf, all_flat (fun s hs => pR_fit hr (hok2 s hs))]; rfl)
    refine X.Ev.succ ?_
    have H2 := fJoin_1 (l := l) (m := l.length) (i := (i : Int)) ht (rd_T56 l (i : Int)) t.length 0 acc (by omega) (by omega) (by rw [List.drop_zero, X.wnext (m := l.length) (by omega) (by omega)]; exact H)
    refine X.Ev.of H2 (fun k => ?_)
    simp only [impl_flowJoin.l0]
    rw [if_pos (by omega), if_pos (by omega), if_pos (by omega)]
    rfl
theorem sJoin_1 {l t : List X.Rw} (hl : l.length ≤ 400) (ht : t.length ≤ 400) {i : Nat} (hi : i < l.length) {R : List X.Rw} : ∀ n j : Nat, ∀ acc : List X.Rw, j + n = t.length → acc.length + n ≤ 1000000 →
    X.Ev (fun k => spec_l11Join.l0 k l t (acc ++ (t.drop j).flatMap (pR (rd_T56 l (i : Int)))) (wrap64 ((i : Int) + 1))) R → X.Ev (fun k => spec_l11Join.l1 k l t acc i j) R := by
  intro n
  induction n with
  | zero =>
    intro j acc hj ha H
    refine X.Ev.succ ?_
    rw [List.drop_eq_nil_of_le (by omega), List.flatMap_nil, List.append_nil] at H
    refine X.Ev.of H (fun k => ?_)
    simp only [spec_l11Join.l1]
    rw [if_neg (by omega)]
  | succ n ih =>
    intro j acc hj ha H
    rw [rdRw_at t j (by omega), List.flatMap_cons] at H
    refine X.Ev.succ ?_
    by_cases e : (rd_T56 l (i : Int)).f0 = (rd_T56 t (j : Int)).f0
    · have hE := show pR (rd_T56 l (i : Int)) (rd_T56 t (j : Int)) = _ from if_pos e
      rw [hE, ← List.append_assoc] at H
      have H2 := ih (j + 1) _ (by omega) (by simp; omega) H
      refine X.Ev.of H2 (fun k => ?_)
      simp only [spec_l11Join.l1]
      rw [if_pos (by omega), if_pos (by omega), if_pos (by omega), if_pos (by omega), if_pos e, X.wnext (m := t.length) (by omega) (by omega)]
      simp only [spec_l3Pair.f, spec_TimeJoin.f, Option.bind_some, Int.mul_comm _ 10]
      rw [if_pos (by omega)]
    · have hE : pR (rd_T56 l (i : Int)) (rd_T56 t (j : Int)) = [] := if_neg e
      rw [hE, List.nil_append] at H
      have H2 := ih (j + 1) acc (by omega) (by omega) H
      refine X.Ev.of H2 (fun k => ?_)
      simp only [spec_l11Join.l1]
      rw [if_pos (by omega), if_pos (by omega), if_pos (by omega), if_pos (by omega), if_neg e, X.wnext (m := t.length) (by omega) (by omega)]
theorem sJoin_0 {l t : List X.Rw} (hl : l.length ≤ 400) (ht : t.length ≤ 400) : ∀ n i : Nat, ∀ acc : List X.Rw, i + n = l.length → acc.length ≤ 400 * i →
    X.Ev (fun k => spec_l11Join.l0 k l t acc i) (X.sum (acc ++ (l.drop i).flatMap fun r => t.flatMap (pR r))) := by
  intro n
  induction n with
  | zero =>
    intro i acc hi ha
    refine X.Ev.succ (X.Ev.all fun k => ?_)
    simp only [spec_l11Join.l0, spec_l2Sum.f]
    rw [if_neg (by omega), List.drop_eq_nil_of_le (by omega), if_pos (by omega)]
    simp
  | succ n ih =>
    intro i acc hi ha
    have hi' : i < l.length := by omega
    have hp := pR_len (rd_T56 l (i : Int)) t
    rw [rdRw_at l i hi', List.flatMap_cons, ← List.append_assoc]
    have H := ih (i + 1) (acc ++ t.flatMap (pR (rd_T56 l (i : Int)))) (by omega) (by rw [List.length_append]; omega)
    refine X.Ev.succ ?_
    have H2 := sJoin_1 (l := l) hl ht hi' t.length 0 acc (by omega) (by omega) (by rw [List.drop_zero, X.wnext (m := l.length) (by omega) (by omega)]; exact H)
    refine X.Ev.of H2 (fun k => ?_)
    simp only [spec_l11Join.l0]
    rw [if_pos (by omega)]
    rfl
/-- both answer the same -/
theorem flowJoin_e (l t : List X.Rw) : ∃ r : List X.Rw, r.length ≤ 1048576 ∧ X.Ev (fun k => impl_FlowJoin.f k l t) r ∧ X.Ev (fun k => spec_FlowJoin.f k l t) r := by
  by_cases hs : X.rowsOk l = true
  · obtain ⟨hl, hok⟩ := rowsOk_all hs
    by_cases hs2 : X.rowsOk t = true
    · obtain ⟨ht, hok2⟩ := rowsOk_all hs2
      have A := fJoin_0 hl ht hok hok2 l.length 0 [] (by omega) (by simp) rfl
      have B := sJoin_0 hl ht l.length 0 [] (by omega) (by simp)
      simp only [List.nil_append, List.drop_zero] at A B
      refine ⟨X.fit (X.sum (l.flatMap fun r => t.flatMap (pR r))), ?_, ?_, ?_⟩
      · have h1 := fit_len (X.sum (l.flatMap fun r => t.flatMap (pR r)))
        have h2 := sum_len (l.flatMap fun r => t.flatMap (pR r))
        have h3 := prs_len t l
        have h4 := Nat.mul_le_mul ht hl
        omega
      · simp only [impl_FlowJoin.f, impl_RowsOk.f, hs, hs2, Option.bind_some, if_true]
        exact X.Ev.bind A (X.Ev.pure _)
      · simp only [spec_FlowJoin.f, spec_RowsOk.f, hs, hs2, Option.bind_some, if_true, Bool.not_true]
        refine X.Ev.succ ?_
        simp only [spec_FlowJoin.j0, Bool.false_eq_true, if_false]
        refine X.Ev.bind B ?_
        simp only [spec_l2Fit.f, spec_BatchOk.f, Option.bind_some]
        refine X.Ev.all fun k => ?_
        unfold X.fit
        cases h : X.batchOk (X.sum (l.flatMap fun r => t.flatMap (pR r))) <;> rfl
    · have hs' : X.rowsOk t = false := by simpa using hs2
      refine ⟨[], by simp, ?_, ?_⟩
      · simp only [impl_FlowJoin.f, impl_RowsOk.f, hs, hs', Option.bind_some, if_true, Bool.false_eq_true, if_false]
        exact X.Ev.pure _
      · simp only [spec_FlowJoin.f, spec_RowsOk.f, hs, hs', Option.bind_some, if_true, Bool.not_false]
        refine X.Ev.succ ?_
        simp only [spec_FlowJoin.j0, if_true]
        exact X.Ev.pure _
  · have hs' : X.rowsOk l = false := by simpa using hs
    refine ⟨[], by simp, ?_, ?_⟩
    · simp only [impl_FlowJoin.f, impl_RowsOk.f, hs', Option.bind_some, Bool.false_eq_true, if_false]
      exact X.Ev.pure _
    · simp only [spec_FlowJoin.f, spec_RowsOk.f, hs', Option.bind_some, Bool.false_eq_true, if_false]
      refine X.Ev.succ ?_
      simp only [spec_FlowJoin.j0, if_true]
      exact X.Ev.pure _

theorem FnExactFlowJoin (x : List X.Rw) (hx : x.length ≤ 9223372036854775807) (y : List X.Rw) (hy : y.length ≤ 9223372036854775807) : ∃ k, laws_FnExactFlowJoin.f k x y = some true := by
  refine X.Ev.get ?_
  simp only [laws_FnExactFlowJoin.f, szRowS_e x 1048576 (by omega) (by omega) hx, Option.bind_some]
  by_cases hb : (1048576 : Int) < x.length
  · simp only [if_pos hb]
    exact X.Ev.all fun k => by rw [if_pos (by omega)]
  simp only [if_neg hb, if_neg (show ¬ (1048576 : Int) - x.length < 0 by omega)]
  simp only [szRowS_e y (1048576 - (x.length : Int)) (by omega) (by omega) hy, Option.bind_some]
  by_cases hb2 : (1048576 : Int) - x.length < y.length
  · simp only [if_pos hb2]
    exact X.Ev.all fun k => by rw [if_pos (by omega)]
  simp only [if_neg hb2, if_neg (show ¬ (1048576 : Int) - x.length - y.length < 0 by omega)]
  obtain ⟨r, hr, hi, hs⟩ := flowJoin_e x y
  have E := eqRowS_e r (by omega)
  simp only [toRowS_e x (by omega), toRowS_e y (by omega), Option.bind_some]
  refine X.Ev.bind hs ?_
  refine X.Ev.bind hi ?_
  refine X.Ev.bind E ?_
  simp only [if_true]
  refine X.Ev.bind (eqRowS_e x (by omega)) ?_
  simp only [if_true]
  refine X.Ev.bind (eqRowS_e y (by omega)) ?_
  simp only [if_true]
  refine X.Ev.bind (X.Ev.all (markRowS_e x (by omega))) ?_
  refine X.Ev.bind (X.Ev.all (markRowS_q y (1 + 5 * (x.length : Int)) (by omega) (by omega) (by omega))) ?_
  have hneg : ¬ (1 + 5 * (x.length : Int) + 5 * (y.length : Int)) < 0 := by omega
  refine X.Ev.of (f := fun k => (laws_eqRowS.f k r r).bind fun t => laws_FnExactFlowJoin.j0 k x y r r (!t)) ?_ (fun k => if_neg hneg)
  refine X.Ev.bind E ?_
  simp only [Bool.not_true]
  refine X.Ev.succ ?_
  simp only [laws_FnExactFlowJoin.j0, Bool.false_eq_true, if_false, markRowS_e r hr, Option.bind_some]
  refine X.Ev.bind (heldRowS_e r.length hr) ?_
  simp only [if_neg (show ¬ (1 + 5 * (r.length : Int)) < 0 by omega), if_true, toRowS_e x (by omega), toRowS_e y (by omega), Option.bind_some]
  refine X.Ev.bind hi ?_
  refine X.Ev.bind E ?_
  simp only [if_true]
  refine X.Ev.bind (heldRowS_e r.length hr) ?_
  simp only [if_neg (show ¬ (1 + 5 * (r.length : Int)) < 0 by omega), if_true]
  exact X.Ev.pure _

end Go.Proofs.Ytbbkimgadohdkaa.Pure
