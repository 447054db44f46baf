/- Proved: the printed form of FnExactFlowEach answers true for each slice of rows and each way, with enough rounds. Conditions: that the slice is no longer than a slice can be. -/
import Derived.Test.YtbbkimgadohdkaaPFnExactFlowEachx0
import Derived.Test.YtbbkimgadohdkaaPFnExactFlowEachx1
import Derived.Test.YtbbkimgadohdkaaPFnExactFlowEachx2
import Derived.Test.YtbbkimgadohdkaaPFnExactFlowEachx3
import Derived.Test.YtbbkimgadohdkaaPFnExactFlowEachx4
import Derived.Test.YtbbkimgadohdkaaXEv
namespace Go.Proofs.Ytbbkimgadohdkaa.Pure
open Go.RowKit Go.Proofs.Ytbbkimgadohdkaa.PFnExactFlowEach Go.Proofs.YtbbkimgadohdkaaW.PrintWords
set_option linter.unusedVariables false
set_option linter.unusedSimpArgs false

/-! the copies, the sizes, the comparisons -/
theorem eqTime_e (a b : Int) : laws_eqTime.f a b a b = some true := by simp [laws_eqTime.f]
theorem eqRow_e (a b c d e : Int) : laws_eqRow.f a b c d e a b c d e = some true := by simp [laws_eqRow.f, eqTime_e]
theorem eqRowS_l (x : List X.Rw) (hx : x.length ≤ 1152921504606846976) : ∀ n i : Nat, i + n = x.length → X.Ev (fun k => laws_eqRowS.l0 k x x i) true := by
  intro n
  induction n with
  | zero =>
    intro i hi
    refine X.Ev.succ (X.Ev.all fun k => ?_)
    simp only [laws_eqRowS.l0]
    rw [if_neg (by omega)]
  | succ n ih =>
    intro i hi
    refine X.Ev.succ ?_
    simp only [laws_eqRowS.l0, eqRow_e, Option.bind_some, if_true]
    refine X.Ev.of (ih (i + 1) (by omega)) (fun k => ?_)
    rw [if_pos (by omega), if_pos (by omega), X.wnext (by omega) hx]
    simp only [if_pos (show (i : Int) < (x.length : Int) by omega)]
theorem eqRowS_e (x : List X.Rw) (hx : x.length ≤ 1152921504606846976) : X.Ev (fun k => laws_eqRowS.f k x x) true := by
  simp only [laws_eqRowS.f, if_true]
  exact eqRowS_l x hx x.length 0 (by omega)
theorem szRowS_e (l : List X.Rw) (left : Int) (h0 : 0 ≤ left) (h1 : left ≤ 1048576) (hl : l.length ≤ 9223372036854775807) : laws_szRowS.f l left = some (if left < l.length then -1 else left - l.length) := by
  unfold laws_szRowS.f
  have e : wrap64 (left - (l.length : Int)) = left - l.length := by unfold wrap64; omega
  rw [e]
  by_cases h : left < l.length
  · rw [if_pos (by omega), if_pos h]
  · rw [if_neg (by omega), if_neg h]

/-! rows: the marks -/
theorem rdRw_i (l : List X.Rw) (i : Nat) (h : i < l.length) : rd_T56 l (i : Int) = l[i] := by simp [rd_T56, List.getD, h]
theorem marks_get (k : Int) (n i : Nat) (h : i < (X.marks k n).length) : (X.marks k n)[i] = X.mark (k + 5 * (i : Int)) := by simp [X.marks]
theorem heldRowS_l (n : Nat) (hn : n ≤ 1048576) : ∀ m i : Nat, i + m = n → X.Ev (fun k => laws_heldRowS.l0 k (X.marks 1 n) (1 + 5 * (i : Int)) i) (1 + 5 * (n : Int)) := by
  intro m
  induction m with
  | zero =>
    intro i hi
    refine X.Ev.succ (X.Ev.all fun k => ?_)
    simp only [laws_heldRowS.l0]
    rw [X.marks_len, if_neg (by omega)]
    congr 1; omega
  | succ m ih =>
    intro i hi
    refine X.Ev.succ ?_
    have hl : i < (X.marks 1 n).length := by rw [X.marks_len]; omega
    refine X.Ev.of (ih (i + 1) (by omega)) (fun k => ?_)
    have w1 : wrap64 (1 + 5 * (i : Int) + 1) = 1 + 5 * (i : Int) + 1 := by unfold wrap64; omega
    have w2 : wrap64 (1 + 5 * (i : Int) + 1 + 1) = 1 + 5 * (i : Int) + 2 := by unfold wrap64; omega
    have w3 : wrap64 (1 + 5 * (i : Int) + 2 + 1) = 1 + 5 * (i : Int) + 3 := by unfold wrap64; omega
    have w4 : wrap64 (1 + 5 * (i : Int) + 3 + 1) = 1 + 5 * (i : Int) + 4 := by unfold wrap64; omega
    have w5 : wrap64 (1 + 5 * (i : Int) + 4 + 1) = 1 + 5 * ((i + 1 : Nat) : Int) := by unfold wrap64; omega
    simp only [laws_heldRowS.l0]
    rw [rdRw_i _ _ hl, marks_get, w1, w2, w3, w4, w5, X.wnext (m := n) (by omega) (by omega)]
    simp only [X.mark]
    rw [if_pos (by rw [X.marks_len]; omega), if_pos (by omega), if_pos trivial, if_pos trivial, if_pos trivial, if_pos trivial, if_pos trivial]
theorem heldRowS_e (n : Nat) (hn : n ≤ 1048576) : X.Ev (fun k => laws_heldRowS.f k (X.marks 1 n) 1) (1 + 5 * (n : Int)) := by
  have := heldRowS_l n hn n 0 (by omega)
  simpa [laws_heldRowS.f] using this
theorem markRowS_e (x : List X.Rw) (hx : x.length ≤ 1048576) (k : Nat) : laws_markRowS.f k x 1 = some (1 + 5 * (x.length : Int), X.marks 1 x.length) := by
  unfold laws_markRowS.f
  rw [if_pos ⟨by omega, by omega⟩]
theorem toRowS_e (x : List X.Rw) (hx : x.length ≤ 1048576) (k : Nat) : laws_toRowS.f k x = some x := by
  unfold laws_toRowS.f
  rw [if_pos (by omega)]
theorem batch_e (l : List X.Rw) (hf : l.all X.fitRw = true) (hl : l.length < 1099511627776) (k : Nat) : impl_batch.f k l = some (X.fit (X.sum l), X.batchOk (X.sum l)) := by
  unfold impl_batch.f impl_consolidated.f impl_BatchOk.f
  rw [if_pos ⟨hf, hl⟩, Option.bind_some, Option.bind_some]
  unfold X.fit
  cases h : X.batchOk (X.sum l) <;> rfl
theorem rowsOk_all {l : List X.Rw} (h : X.rowsOk l = true) : l.length ≤ 400 ∧ ∀ r ∈ l, X.rowOk r = true := by
  simp only [X.rowsOk, Bool.and_eq_true, decide_eq_true_eq, List.all_eq_true] at h
  exact ⟨h.2, h.1⟩
theorem rowOk_in {r : X.Rw} (h : X.rowOk r = true) : (0 ≤ r.f0 ∧ r.f0 < 4) ∧ (0 ≤ r.f1 ∧ r.f1 < 100) ∧ (0 ≤ r.f2.f0 ∧ r.f2.f0 ≤ 7) ∧ (0 ≤ r.f2.f1 ∧ r.f2.f1 ≤ 7) ∧ (-99999 ≤ r.f3 ∧ r.f3 ≤ 99999) := by
  simp only [X.rowOk, X.tOk, Bool.and_eq_true, decide_eq_true_eq] at h
  omega
theorem fitRw_of {a b c d e : Int} (h0 : -1099511627776 ≤ a ∧ a ≤ 1099511627776) (h1 : -1099511627776 ≤ b ∧ b ≤ 1099511627776) (h2 : -1099511627776 ≤ c ∧ c ≤ 1099511627776) (h3 : -1099511627776 ≤ d ∧ d ≤ 1099511627776) (h4 : -1099511627776 ≤ e ∧ e ≤ 1099511627776) : X.fitRw ⟨a, b, ⟨c, d⟩, e⟩ = true := by
  have e0 := (X.wfI_iff a).2 (by omega)
  have e1 := (X.wfI_iff b).2 (by omega)
  have e2 := (X.wfI_iff c).2 (by omega)
  have e3 := (X.wfI_iff d).2 (by omega)
  have e4 := (X.wfI_iff e).2 (by omega)
  unfold X.wfI at e0 e1 e2 e3 e4
  simp [X.fitRw, e0, e1, e2, e3, e4]
theorem nonZero_len (x : List X.Rw) : (X.nonZero x).length ≤ x.length := List.length_filter_le _ _
theorem put_len (r : X.Rw) : ∀ S : List X.Rw, (X.put r S).length ≤ S.length + 1
  | [] => by simp [X.put]
  | x :: xs => by
    have := put_len r xs
    rw [X.put]
    split
    · simp
    · split
      · simp
      · simp; omega
theorem putAll_len : ∀ (l S : List X.Rw), (X.putAll S l).length ≤ S.length + l.length
  | [], S => by simp [X.putAll]
  | r :: l, S => by
    have h1 := putAll_len l (X.put r S)
    have h2 := put_len r S
    rw [X.putAll, List.length_cons]; omega
theorem sum_len (l : List X.Rw) : (X.sum l).length ≤ l.length := by
  have h1 := nonZero_len (X.putAll [] l)
  have h2 := putAll_len l []
  unfold X.sum; simp at h2; omega
theorem fit_len (l : List X.Rw) : (X.fit l).length ≤ l.length := by unfold X.fit; split <;> simp

/-! each row mapped or kept -/
theorem eachR_same {p q : Int} (g0 : 0 ≤ p ∧ p < 4) (g1 : 0 ≤ q ∧ q < 100) {how : Int} (h0 : 1 ≤ how) (h1 : how ≤ 7) : spec_l3One.f p q how = impl_each.f p q how ∧ ∃ a b c, impl_each.f p q how = some (a, b, c) ∧ (0 ≤ a ∧ a ≤ 1000) ∧ (0 ≤ b ∧ b ≤ 1000) := by
  have g2 : 0 ≤ q := g1.1
  have w0 : wrap64 (q - Int.tmod q 4) = q - Int.tmod q 4 := by rw [Int.tmod_eq_emod_of_nonneg g2]; unfold wrap64; omega
  have w1 : Int.tdiv q 4 = q / 4 := Int.tdiv_eq_ediv_of_nonneg g2
  have w2 : wrap64 (q / 4) = q / 4 := by unfold wrap64; omega
  have w3 : wrap64 (q / 4 * 4) = q / 4 * 4 := by unfold wrap64; omega
  have w4 : Int.tmod q 4 = q % 4 := Int.tmod_eq_emod_of_nonneg g2
  have w5 : wrap64 (q + 1) = q + 1 := by unfold wrap64; omega
  have w6 : q / 4 * 4 = q - q % 4 := by omega
  have w7 : Int.tmod (q + 1) 100 = (q + 1) % 100 := Int.tmod_eq_emod_of_nonneg (by omega)
  have w8 : wrap64 (q - q % 4 + p) = q - q % 4 + p := by unfold wrap64; omega
  have w9 : wrap64 (q - q % 4) = q - q % 4 := by unfold wrap64; omega
  unfold spec_l3One.f impl_each.f
  simp only [w1, w2, w3, w4, w5, w6, w7, w8, w9]
  by_cases c1 : how = 1
  · simp only [c1, if_true]; exact ⟨trivial, _, _, _, rfl, by omega, by omega⟩
  by_cases c2 : how = 2
  · simp only [c1, c2, if_true, if_false]; exact ⟨trivial, _, _, _, rfl, by omega, by omega⟩
  by_cases c3 : how = 3
  · simp only [c1, c2, c3, if_true, if_false]; exact ⟨trivial, _, _, _, rfl, by omega, by omega⟩
  by_cases c4 : how = 4
  · simp only [c1, c2, c3, c4, if_true, if_false]; exact ⟨trivial, _, _, _, rfl, by omega, by omega⟩
  by_cases c5 : how = 5
  · simp only [c1, c2, c3, c4, c5, if_true, if_false]; exact ⟨trivial, _, _, _, rfl, by omega, by omega⟩
  by_cases c6 : how = 6
  · simp only [c1, c2, c3, c4, c5, c6, if_true, if_false]; exact ⟨trivial, _, _, _, rfl, by omega, by omega⟩
  have c7 : how = 7 := by omega
  simp only [c1, c2, c3, c4, c5, c6, c7, if_true, if_false]; exact ⟨trivial, _, _, _, rfl, by omega, by omega⟩
/-- what is made of a row -/
def fR (how : Int) (r : X.Rw) : List X.Rw := match impl_each.f r.f0 r.f1 how with
  | some (a, b, true) => [⟨a, b, ⟨r.f2.f0, r.f2.f1⟩, r.f3⟩]
  | _ => []
theorem fR_len (how : Int) : ∀ l : List X.Rw, (l.flatMap (fR how)).length ≤ l.length
  | [] => by simp
  | x :: l => by
    have h1 := fR_len how l
    have h2 : (fR how x).length ≤ 1 := by unfold fR; split <;> simp
    rw [List.flatMap_cons, List.length_append, List.length_cons]; omega
theorem rdRw_at (l : List X.Rw) (i : Nat) (h : i < l.length) : l.drop i = rd_T56 l (i : Int) :: l.drop (i + 1) := by
  rw [X.getD_drop h z56]; simp [rd_T56]
theorem rdRw_mem {l : List X.Rw} {i : Nat} (h : i < l.length) : rd_T56 l (i : Int) ∈ l := by
  have := X.getD_some (l := l) (i := i) h z56
  exact List.mem_of_getElem? (by simpa [rd_T56] using this)
theorem flowEach_l {l : List X.Rw} (hl : l.length ≤ 400) (hok : ∀ r ∈ l, X.rowOk r = true) {how : Int} (h0 : 1 ≤ how) (h1 : how ≤ 7) : ∀ n i : Nat, ∀ acc : List X.Rw, i + n = l.length → acc.length ≤ i → acc.all X.fitRw = true →
    X.Ev (fun k => impl_flowEach.l0 k how acc l l.length i) (X.fit (X.sum (acc ++ (l.drop i).flatMap (fR how))), X.batchOk (X.sum (acc ++ (l.drop i).flatMap (fR how)))) := by
  intro n
  induction n with
  | zero =>
    intro i acc hi ha hf
    refine X.Ev.succ (X.Ev.all fun k => ?_)
    simp only [impl_flowEach.l0]
    rw [if_neg (by omega), List.drop_eq_nil_of_le (by omega), batch_e acc hf (by omega)]
    simp
  | succ n ih =>
    intro i acc hi ha hf
    have hi' : i < l.length := by omega
    have hr := rowOk_in (hok _ (rdRw_mem hi'))
    obtain ⟨_, a, b, c, he, ha', hb'⟩ := eachR_same hr.1 hr.2.1 h0 h1
    rw [rdRw_at l i hi', List.flatMap_cons]
    refine X.Ev.succ ?_
    cases c
    · have hE : fR how (rd_T56 l (i : Int)) = [] := by unfold fR; rw [he]
      have H := ih (i + 1) acc (by omega) (by omega) hf
      rw [hE, List.nil_append]
      refine X.Ev.of H (fun k => ?_)
      simp only [impl_flowEach.l0]
      rw [if_pos (by omega), if_pos (by omega), if_pos (by omega), he, X.wnext (m := l.length) (by omega) (by omega)]
      simp
    · have hE : fR how (rd_T56 l (i : Int)) = [⟨a, b, ⟨(rd_T56 l (i : Int)).f2.f0, (rd_T56 l (i : Int)).f2.f1⟩, (rd_T56 l (i : Int)).f3⟩] := by unfold fR; rw [he]
      have hfit := fitRw_of (a := a) (b := b) (c := (rd_T56 l (i : Int)).f2.f0) (d := (rd_T56 l (i : Int)).f2.f1) (e := (rd_T56 l (i : Int)).f3) (by omega) (by omega) (by omega) (by omega) (by omega)
      have H := ih (i + 1) (acc ++ [⟨a, b, ⟨(rd_T56 l (i : Int)).f2.f0, (rd_T56 l (i : Int)).f2.f1⟩, (rd_T56 l (i : Int)).f3⟩]) (by omega) (by simp; omega) (by rw [List.all_append, hf]; simpa using hfit)
      rw [hE, ← List.append_assoc]
      refine X.Ev.of H (fun k => ?_)
      simp only [impl_flowEach.l0]
      rw [if_pos (by omega), if_pos (by omega), if_pos (by omega), he, X.wnext (m := l.length) (by omega) (by omega)]
      simp only [Option.bind_some, if_true]
      rw [if_pos (by omega)]
theorem l11Each_l {l : List X.Rw} (hl : l.length ≤ 400) (hok : ∀ r ∈ l, X.rowOk r = true) {how : Int} (h0 : 1 ≤ how) (h1 : how ≤ 7) : ∀ n i : Nat, ∀ acc : List X.Rw, i + n = l.length → acc.length ≤ i →
    X.Ev (fun k => spec_l11Each.l0 k l how acc i) (X.sum (acc ++ (l.drop i).flatMap (fR how))) := by
  intro n
  induction n with
  | zero =>
    intro i acc hi ha
    refine X.Ev.succ (X.Ev.all fun k => ?_)
    simp only [spec_l11Each.l0, spec_l2Sum.f]
    rw [if_neg (by omega), List.drop_eq_nil_of_le (by omega), if_pos (by omega)]
    simp
  | succ n ih =>
    intro i acc hi ha
    have hi' : i < l.length := by omega
    have hr := rowOk_in (hok _ (rdRw_mem hi'))
    obtain ⟨hs, a, b, c, he, ha', hb'⟩ := eachR_same hr.1 hr.2.1 h0 h1
    rw [he] at hs
    rw [rdRw_at l i hi', List.flatMap_cons]
    refine X.Ev.succ ?_
    cases c
    · have hE : fR how (rd_T56 l (i : Int)) = [] := by unfold fR; rw [he]
      have H := ih (i + 1) acc (by omega) (by omega)
      rw [hE, List.nil_append]
      refine X.Ev.of H (fun k => ?_)
      simp only [spec_l11Each.l0]
      rw [if_pos (by omega), if_pos (by omega), hs, X.wnext (m := l.length) (by omega) (by omega)]
      simp
    · have hE : fR how (rd_T56 l (i : Int)) = [⟨a, b, ⟨(rd_T56 l (i : Int)).f2.f0, (rd_T56 l (i : Int)).f2.f1⟩, (rd_T56 l (i : Int)).f3⟩] := by unfold fR; rw [he]
      have H := ih (i + 1) (acc ++ [⟨a, b, ⟨(rd_T56 l (i : Int)).f2.f0, (rd_T56 l (i : Int)).f2.f1⟩, (rd_T56 l (i : Int)).f3⟩]) (by omega) (by simp; omega)
      rw [hE, ← List.append_assoc]
      refine X.Ev.of H (fun k => ?_)
      simp only [spec_l11Each.l0]
      rw [if_pos (by omega), if_pos (by omega), hs, X.wnext (m := l.length) (by omega) (by omega)]
      simp only [Option.bind_some, if_true]
      rw [if_pos (by omega)]
/-- both answer the same -/
theorem flowEach_e (l : List X.Rw) (how : Int) : ∃ r : List X.Rw, r.length ≤ 1048576 ∧ X.Ev (fun k => impl_FlowEach.f k l how) r ∧ X.Ev (fun k => spec_FlowEach.f k l how) r := by
  have hhow : impl_howOk.f how = some (decide (1 ≤ how) && decide (how ≤ 7)) := by
    unfold impl_howOk.f
    by_cases h : how ≥ 1
    · rw [if_pos h, decide_eq_true (show 1 ≤ how from h), Bool.true_and]
    · rw [if_neg h, decide_eq_false (show ¬ 1 ≤ how from h), Bool.false_and]
  by_cases hs : X.rowsOk l = true
  · obtain ⟨hl, hok⟩ := rowsOk_all hs
    by_cases hc : 1 ≤ how ∧ how ≤ 7
    · have hw : (decide (1 ≤ how) && decide (how ≤ 7)) = true := by simp [hc.1, hc.2]
      have A := flowEach_l hl hok hc.1 hc.2 l.length 0 [] (by omega) (by simp) rfl
      have B := l11Each_l hl hok hc.1 hc.2 l.length 0 [] (by omega) (by simp)
      simp only [List.nil_append, List.drop_zero] at A B
      refine ⟨X.fit (X.sum (l.flatMap (fR how))), ?_, ?_, ?_⟩
      · have h1 := fit_len (X.sum (l.flatMap (fR how)))
        have h2 := sum_len (l.flatMap (fR how))
        have h3 := fR_len how l
        omega
      · simp only [impl_FlowEach.f, impl_RowsOk.f, hhow, hs, hw, Option.bind_some, if_true]
        exact X.Ev.bind A (X.Ev.pure _)
      · simp only [spec_FlowEach.f, spec_RowsOk.f, spec_l3Way.f, spec_l6In.f, hs, hw, Option.bind_some, if_true, Bool.not_true]
        refine X.Ev.succ ?_
        simp only [spec_FlowEach.j0, Bool.false_eq_true, if_false]
        refine X.Ev.bind B ?_
        simp only [spec_l2Fit.f, spec_BatchOk.f, Option.bind_some]
        refine X.Ev.all fun k => ?_
        unfold X.fit
        cases h : X.batchOk (X.sum (l.flatMap (fR how))) <;> rfl
    · have hw : (decide (1 ≤ how) && decide (how ≤ 7)) = false := by
        cases hq : (decide (1 ≤ how) && decide (how ≤ 7)) with
        | false => rfl
        | true => simp at hq; exact absurd hq hc
      refine ⟨[], by simp, ?_, ?_⟩
      · simp only [impl_FlowEach.f, impl_RowsOk.f, hhow, hs, hw, Option.bind_some, if_true, Bool.false_eq_true, if_false]
        exact X.Ev.pure _
      · simp only [spec_FlowEach.f, spec_RowsOk.f, spec_l3Way.f, spec_l6In.f, hs, hw, Option.bind_some, if_true, Bool.not_false]
        refine X.Ev.succ ?_
        simp only [spec_FlowEach.j0, if_true]
        exact X.Ev.pure _
  · have hs' : X.rowsOk l = false := by simpa using hs
    refine ⟨[], by simp, ?_, ?_⟩
    · simp only [impl_FlowEach.f, impl_RowsOk.f, hs', Option.bind_some, Bool.false_eq_true, if_false]
      exact X.Ev.pure _
    · simp only [spec_FlowEach.f, spec_RowsOk.f, hs', Option.bind_some, Bool.false_eq_true, if_false]
      refine X.Ev.succ ?_
      simp only [spec_FlowEach.j0, if_true]
      exact X.Ev.pure _

theorem FnExactFlowEach (x : List X.Rw) (hx : x.length ≤ 9223372036854775807) (how : Int) : ∃ k, laws_FnExactFlowEach.f k x how = some true := by
  refine X.Ev.get ?_
  simp only [laws_FnExactFlowEach.f, szRowS_e x 1048576 (by omega) (by omega) hx, Option.bind_some]
  by_cases hb : (1048576 : Int) < x.length
  · simp only [if_pos hb]
    exact X.Ev.all fun k => by rw [if_pos (by omega)]
  simp only [if_neg hb, if_neg (show ¬ (1048576 : Int) - x.length < 0 by omega)]
  obtain ⟨r, hr, hi, hs⟩ := flowEach_e x how
  have E := eqRowS_e r (by omega)
  simp only [toRowS_e x (by omega), Option.bind_some]
  refine X.Ev.bind hs ?_
  refine X.Ev.bind hi ?_
  refine X.Ev.bind E ?_
  simp only [if_true]
  refine X.Ev.bind (eqRowS_e x (by omega)) ?_
  simp only [if_true, markRowS_e x (by omega), Option.bind_some]
  simp only [if_neg (show ¬ (1 + 5 * (x.length : Int)) < 0 by omega)]
  refine X.Ev.bind E ?_
  simp only [Bool.not_true]
  refine X.Ev.succ ?_
  simp only [laws_FnExactFlowEach.j0, Bool.false_eq_true, if_false, markRowS_e r hr, Option.bind_some]
  refine X.Ev.bind (heldRowS_e r.length hr) ?_
  simp only [if_neg (show ¬ (1 + 5 * (r.length : Int)) < 0 by omega), if_true, toRowS_e x (by omega), Option.bind_some]
  refine X.Ev.bind hi ?_
  refine X.Ev.bind E ?_
  simp only [if_true]
  refine X.Ev.bind (heldRowS_e r.length hr) ?_
  simp only [if_neg (show ¬ (1 + 5 * (r.length : Int)) < 0 by omega), if_true]
  exact X.Ev.pure _

end Go.Proofs.Ytbbkimgadohdkaa.Pure
