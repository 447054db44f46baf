/- Proved: the printed form of FnExactSetEach answers true for each row of items and each way, with enough rounds. Conditions: that the slice is no longer than a slice can be. -/
import Derived.Test.YtdppnipodndcpaaPFnExactSetEachx0
import Derived.Test.YtdppnipodndcpaaPFnExactSetEachx1
import Derived.Test.YtdppnipodndcpaaPFnExactSetEachx2
import Derived.Test.YtdppnipodndcpaaPFnExactSetEachx3
import Derived.Test.YtdppnipodndcpaaPFnExactSetEachx4
import Derived.Test.YtdppnipodndcpaaPFnExactSetEachx5
import Derived.Test.YtdppnipodndcpaaPFnExactSetEachx6
import Derived.Test.YtdppnipodndcpaaXEv
namespace Go.Proofs.Ytdppnipodndcpaa.Pure
open Go.RowKit Go.Proofs.Ytdppnipodndcpaa.PFnExactSetEach Go.Proofs.YtdppnipodndcpaaW.PrintWords
set_option linter.unusedVariables false
set_option linter.unusedSimpArgs false

/-! items: sizes, copies, comparisons, marks -/
theorem eqItem_e (a b c : Int) : laws_eqItem.f a b c a b c = some true := by simp [laws_eqItem.f]
theorem eqItemS_l (x : List X.It) (hx : x.length ≤ 1152921504606846976) : ∀ n i : Nat, i + n = x.length → X.Ev (fun k => laws_eqItemS.l0 k x x i) true := by
  intro n
  induction n with
  | zero =>
    intro i hi
    refine X.Ev.succ (X.Ev.all fun k => ?_)
    simp only [laws_eqItemS.l0]
    rw [if_neg (by omega)]
  | succ n ih =>
    intro i hi
    refine X.Ev.succ ?_
    simp only [laws_eqItemS.l0, eqItem_e, Option.bind_some, if_true]
    refine X.Ev.of (ih (i + 1) (by omega)) (fun k => ?_)
    rw [if_pos (by omega), if_pos (by omega), X.wnext (by omega) hx]
    simp only [if_pos (show (i : Int) < (x.length : Int) by omega)]
theorem eqItemS_e (x : List X.It) (hx : x.length ≤ 1152921504606846976) : X.Ev (fun k => laws_eqItemS.f k x x) true := by
  simp only [laws_eqItemS.f, if_true]
  exact eqItemS_l x hx x.length 0 (by omega)
theorem szItemS_e (l : List X.It) (left : Int) (h0 : 0 ≤ left) (h1 : left ≤ 1048576) (hl : l.length ≤ 9223372036854775807) : laws_szItemS.f l left = some (if left < l.length then -1 else left - l.length) := by
  unfold laws_szItemS.f
  have e : wrap64 (left - (l.length : Int)) = left - l.length := by unfold wrap64; omega
  rw [e]
  by_cases h : left < l.length
  · rw [if_pos (by omega), if_pos h]
  · rw [if_neg (by omega), if_neg h]
theorem toItemS_l (x : List X.It) (hx : x.length ≤ 1048576) : ∀ n i : Nat, i + n = x.length → X.Ev (fun k => laws_toItemS.l0 k x (x.take i ++ List.replicate (x.length - i) ⟨0, 0, 0⟩) i) x := by
  intro n
  induction n with
  | zero =>
    intro i hi
    refine X.Ev.succ (X.Ev.all fun k => ?_)
    simp only [laws_toItemS.l0]
    rw [if_neg (by omega), List.take_of_length_le (by omega), show x.length - i = 0 by omega]
    simp
  | succ n ih =>
    intro i hi
    refine X.Ev.succ ?_
    simp only [laws_toItemS.l0, laws_toItem.f, Option.bind_some]
    refine X.Ev.of (ih (i + 1) (by omega)) (fun k => ?_)
    have hl : (i : Int) < ((x.take i ++ List.replicate (x.length - i) (⟨0, 0, 0⟩ : X.It)).length : Int) := by
      rw [List.length_append, List.length_take, List.length_replicate]; omega
    rw [if_pos (by omega), if_pos (by omega), if_pos hl, X.wnext (m := x.length) (by omega) (by omega)]
    have e := X.set_next (z := (⟨0, 0, 0⟩ : X.It)) (X.getD_some (l := x) (i := i) (by omega) (⟨0, 0, 0⟩ : X.It))
    rw [← e]
    rfl
theorem toItemS_e (x : List X.It) (hx : x.length ≤ 1048576) : X.Ev (fun k => laws_toItemS.f k x) x := by
  refine X.Ev.of (toItemS_l x hx x.length 0 (by omega)) (fun k => ?_)
  simp only [laws_toItemS.f]
  rw [if_pos (by omega), if_pos (by omega)]
  rfl
theorem rdIt_at (d x : List X.It) (a : X.It) : rd_T90 (d ++ a :: x) (d.length : Int) = a := by simp [rd_T90, List.getD]
/-- the items that are marked from k on -/
def markIt (k : Int) : Nat → List X.It
  | 0 => []
  | n + 1 => ⟨k, k + 1, k + 2⟩ :: markIt (k + 3) n
theorem markIt_len : ∀ (n : Nat) (k : Int), (markIt k n).length = n
  | 0, _ => rfl
  | n + 1, k => by rw [markIt, List.length_cons, markIt_len n (k + 3)]
theorem markItemS_l (y : List X.It) : ∀ (x d : List X.It) (k0 : Int), 0 ≤ k0 → k0 + 3 * x.length ≤ 9000000000000000000 → (d.length : Int) + x.length ≤ 1152921504606846976 → X.Ev (fun k => laws_markItemS.l0 k (d ++ x) k0 d.length) (k0 + 3 * x.length, d ++ markIt k0 x.length) := by
  intro x
  induction x with
  | nil =>
    intro d k0 h0 h1 h2
    refine X.Ev.succ (X.Ev.all fun k => ?_)
    simp only [laws_markItemS.l0]
    rw [if_neg (by simp)]
    simp [markIt]
  | cons a x ih =>
    intro d k0 h0 h1 h2
    simp only [List.length_cons] at h1 h2
    have H := ih (d ++ [⟨k0, k0 + 1, k0 + 2⟩]) (k0 + 3) (by omega) (by omega) (by simp; omega)
    refine X.Ev.succ ?_
    have e1 : wrap64 (k0 + 1) = k0 + 1 := X.wsmall (by omega) (by omega)
    have e2 : wrap64 (k0 + 1 + 1) = k0 + 2 := by rw [X.wsmall (by omega) (by omega)]; omega
    have e3 : wrap64 (k0 + 2 + 1) = k0 + 3 := by rw [X.wsmall (by omega) (by omega)]; omega
    have e4 : wrap64 ((d.length : Int) + 1) = ((d ++ [(⟨k0, k0 + 1, k0 + 2⟩ : X.It)]).length : Int) := by rw [X.wsmall (by omega) (by omega)]; simp
    have e5 : k0 + 3 * ((a :: x).length : Int) = k0 + 3 + 3 * (x.length : Int) := by simp; omega
    rw [e5]
    refine X.Ev.of (a := (k0 + 3 + 3 * (x.length : Int), d ++ markIt k0 (a :: x).length)) (f := fun k => laws_markItemS.l0 k (d ++ [(⟨k0, k0 + 1, k0 + 2⟩ : X.It)] ++ x) (k0 + 3) ((d ++ [(⟨k0, k0 + 1, k0 + 2⟩ : X.It)]).length : Int)) ?_ (fun k => ?_)
    · simpa [markIt] using H
    · simp only [laws_markItemS.l0]
      rw [if_pos (by simp; omega), if_pos (by omega)]
      simp only [Option.bind_some, Int.toNat_natCast, e1, e2, e3, e4]
      congr 1
      simp [rdIt_at]
theorem markItemS_e (x : List X.It) (hx : x.length ≤ 1048576) : X.Ev (fun k => laws_markItemS.f k x 1) (1 + 3 * x.length, markIt 1 x.length) := by
  have := markItemS_l [] x [] 1 (by omega) (by omega) (by simp; omega)
  simpa [laws_markItemS.f] using this
theorem heldItemS_l : ∀ (n : Nat) (d : List X.It) (k0 : Int), 0 ≤ k0 → k0 + 3 * n ≤ 9000000000000000000 → (d.length : Int) + n ≤ 1152921504606846976 → X.Ev (fun k => laws_heldItemS.l0 k (d ++ markIt k0 n) k0 d.length) (k0 + 3 * n) := by
  intro n
  induction n with
  | zero =>
    intro d k0 h0 h1 h2
    refine X.Ev.succ (X.Ev.all fun k => ?_)
    simp only [laws_heldItemS.l0]
    rw [if_neg (by simp [markIt])]
    simp
  | succ n ih =>
    intro d k0 h0 h1 h2
    have H := ih (d ++ [⟨k0, k0 + 1, k0 + 2⟩]) (k0 + 3) (by omega) (by omega) (by simp; omega)
    refine X.Ev.succ ?_
    have e1 : wrap64 (k0 + 1) = k0 + 1 := X.wsmall (by omega) (by omega)
    have e2 : wrap64 (k0 + 1 + 1) = k0 + 2 := by rw [X.wsmall (by omega) (by omega)]; omega
    have e3 : wrap64 (k0 + 2 + 1) = k0 + 3 := by rw [X.wsmall (by omega) (by omega)]; omega
    have e4 : wrap64 ((d.length : Int) + 1) = ((d ++ [(⟨k0, k0 + 1, k0 + 2⟩ : X.It)]).length : Int) := by rw [X.wsmall (by omega) (by omega)]; simp
    have e5 : k0 + 3 * ((n + 1 : Nat) : Int) = k0 + 3 + 3 * (n : Int) := by omega
    rw [e5]
    refine X.Ev.of (f := fun k => laws_heldItemS.l0 k (d ++ [(⟨k0, k0 + 1, k0 + 2⟩ : X.It)] ++ markIt (k0 + 3) n) (k0 + 3) ((d ++ [(⟨k0, k0 + 1, k0 + 2⟩ : X.It)]).length : Int)) H (fun k => ?_)
    simp only [laws_heldItemS.l0, markIt, rdIt_at, e1, e2, e3, e4, if_true]
    rw [if_pos (by simp; omega), if_pos (by omega)]
    congr 1
    simp
theorem heldItemS_e (n : Nat) (hx : n ≤ 1048576) : X.Ev (fun k => laws_heldItemS.f k (markIt 1 n) 1) (1 + 3 * n) := by
  have := heldItemS_l n [] 1 (by omega) (by omega) (by simp; omega)
  simpa [laws_heldItemS.f] using this

/-! the reference's sum of rows -/
theorem rdRw_at (l : List X.Rw) (i : Nat) (h : i < l.length) : l.drop i = rd_T35 l (i : Int) :: l.drop (i + 1) := by
  rw [X.getD_drop h z35]; simp [rd_T35]
theorem l2Put_done (x : List X.Rw) (hx : x.length ≤ 1000000000000) (a b c d e : Int) : ∀ n i : Nat, ∀ acc : List X.Rw, i + n = x.length → acc.length + n ≤ 2000000000000 → X.Ev (fun k => spec_l2Put.l0 k x acc true i a b c d e) (acc ++ x.drop i) := by
  intro n
  induction n with
  | zero =>
    intro i acc hi ha
    refine X.Ev.succ (X.Ev.all fun k => ?_)
    simp only [spec_l2Put.l0]
    rw [if_neg (by omega), if_pos trivial, List.drop_eq_nil_of_le (by omega), List.append_nil]
  | succ n ih =>
    intro i acc hi ha
    have H := ih (i + 1) (acc ++ [rd_T35 x (i : Int)]) (by omega) (by simp; omega)
    rw [rdRw_at x i (by omega)]
    refine X.Ev.succ ?_
    simp only [spec_l2Put.l0]
    refine X.Ev.of (f := fun k => spec_l2Put.j1 k x acc true i (X.comp (rd_T35 x (i : Int)) ⟨a, b, ⟨c, d⟩, e⟩) false a b c d e) ?_ (fun k => by rw [if_pos (by omega), if_pos (by omega)]; simp only [spec_l2Comp.f, Option.bind_some, if_true])
    refine X.Ev.succ ?_
    simp only [spec_l2Put.j1, Bool.false_eq_true, if_false, if_true]
    refine X.Ev.of (a := acc ++ rd_T35 x (i : Int) :: x.drop (i + 1)) (f := fun k => spec_l2Put.l0 k x (acc ++ [rd_T35 x (i : Int)]) true ((i + 1 : Nat) : Int) a b c d e) (by simpa using H) (fun k => ?_)
    rw [if_pos (by omega), if_pos (by omega), if_pos (by omega), X.wnext (m := x.length) (by omega) (by omega)]
theorem l2Put_go (x : List X.Rw) (hx : x.length ≤ 1000000000000) (a b c d e : Int) : ∀ n i : Nat, ∀ acc : List X.Rw, i + n = x.length → acc.length + n ≤ 1000000000000 → X.Ev (fun k => spec_l2Put.l0 k x acc false i a b c d e) (acc ++ X.put ⟨a, b, ⟨c, d⟩, e⟩ (x.drop i)) := by
  intro n
  induction n with
  | zero =>
    intro i acc hi ha
    refine X.Ev.succ (X.Ev.all fun k => ?_)
    simp only [spec_l2Put.l0, Bool.false_eq_true, if_false]
    rw [if_neg (by omega), if_pos (by omega), List.drop_eq_nil_of_le (by omega), X.put]
  | succ n ih =>
    intro i acc hi ha
    have H := ih (i + 1) (acc ++ [rd_T35 x (i : Int)]) (by omega) (by simp; omega)
    rw [rdRw_at x i (by omega), X.put]
    refine X.Ev.succ ?_
    simp only [spec_l2Put.l0]
    refine X.Ev.of (f := fun k => spec_l2Put.j1 k x acc false i (X.comp (rd_T35 x (i : Int)) ⟨a, b, ⟨c, d⟩, e⟩) (decide (X.comp (rd_T35 x (i : Int)) ⟨a, b, ⟨c, d⟩, e⟩ > 0)) a b c d e) ?_ (fun k => by rw [if_pos (by omega), if_pos (by omega)]; simp only [spec_l2Comp.f, Option.bind_some, Bool.false_eq_true, if_false])
    refine X.Ev.succ ?_
    by_cases h1 : 0 < X.comp (rd_T35 x (i : Int)) ⟨a, b, ⟨c, d⟩, e⟩
    · rw [if_pos h1]
      have H1 := l2Put_done x hx a b c d e n (i + 1) (acc ++ [⟨a, b, ⟨c, d⟩, e⟩] ++ [rd_T35 x (i : Int)]) (by omega) (by simp; omega)
      simp only [spec_l2Put.j1, decide_eq_true h1, if_true]
      refine X.Ev.of (a := acc ++ ⟨a, b, ⟨c, d⟩, e⟩ :: rd_T35 x (i : Int) :: x.drop (i + 1)) (f := fun k => spec_l2Put.l0 k x (acc ++ [⟨a, b, ⟨c, d⟩, e⟩] ++ [rd_T35 x (i : Int)]) true ((i + 1 : Nat) : Int) a b c d e) (by simpa using H1) (fun k => ?_)
      rw [if_pos (by omega), Option.bind_some, if_pos (by omega), if_pos (by omega), if_pos (by simp; omega), X.wnext (m := x.length) (by omega) (by omega)]
    · rw [if_neg h1]
      have hd : decide (X.comp (rd_T35 x (i : Int)) ⟨a, b, ⟨c, d⟩, e⟩ > 0) = false := decide_eq_false (by omega)
      simp only [spec_l2Put.j1, hd, Bool.false_eq_true, if_false]
      by_cases h2 : X.comp (rd_T35 x (i : Int)) ⟨a, b, ⟨c, d⟩, e⟩ = 0
      · simp only [if_pos h2]
        have H2 := l2Put_done x hx a b c d (wrap64 (e + (rd_T35 x (i : Int)).f3)) n (i + 1) (acc ++ [⟨a, b, ⟨c, d⟩, wrap64 (e + (rd_T35 x (i : Int)).f3)⟩]) (by omega) (by simp; omega)
        refine X.Ev.of (a := acc ++ ⟨a, b, ⟨c, d⟩, wrap64 (e + (rd_T35 x (i : Int)).f3)⟩ :: x.drop (i + 1)) (f := fun k => spec_l2Put.l0 k x (acc ++ [⟨a, b, ⟨c, d⟩, wrap64 (e + (rd_T35 x (i : Int)).f3)⟩]) true ((i + 1 : Nat) : Int) a b c d (wrap64 (e + (rd_T35 x (i : Int)).f3))) (by simpa using H2) (fun k => ?_)
        rw [if_pos (by omega), if_pos (by omega), if_pos (by omega), X.wnext (m := x.length) (by omega) (by omega)]
      · simp only [if_neg h2]
        refine X.Ev.of (a := acc ++ rd_T35 x (i : Int) :: X.put ⟨a, b, ⟨c, d⟩, e⟩ (x.drop (i + 1))) (f := fun k => spec_l2Put.l0 k x (acc ++ [rd_T35 x (i : Int)]) false ((i + 1 : Nat) : Int) a b c d e) (by simpa using H) (fun k => ?_)
        rw [if_pos (by omega), if_pos (by omega), if_pos (by omega), X.wnext (m := x.length) (by omega) (by omega)]
theorem l2Put_e (x : List X.Rw) (hx : x.length ≤ 1000000000000) (r : X.Rw) : X.Ev (fun k => spec_l2Put.f k x r.f0 r.f1 r.f2.f0 r.f2.f1 r.f3) (X.put r x) := by
  have := l2Put_go x hx r.f0 r.f1 r.f2.f0 r.f2.f1 r.f3 x.length 0 [] (by omega) (by simp; omega)
  simpa [spec_l2Put.f] using this
theorem put_len (r : X.Rw) : ∀ S : List X.Rw, (X.put r S).length ≤ S.length + 1
  | [] => by simp [X.put]
  | x :: xs => by
    have := put_len r xs
    rw [X.put]
    split
    · simp
    · split
      · simp
      · simp; omega
theorem l2Sum_1 (x : List X.Rw) (hx : x.length ≤ 1000000000000) : ∀ n i : Nat, ∀ acc : List X.Rw, i + n = x.length → acc.length + n ≤ 1000000000000 → X.Ev (fun k => spec_l2Sum.l1 k x acc i) (acc ++ X.nonZero (x.drop i)) := by
  intro n
  induction n with
  | zero =>
    intro i acc hi ha
    refine X.Ev.succ (X.Ev.all fun k => ?_)
    simp only [spec_l2Sum.l1]
    rw [if_neg (by omega), List.drop_eq_nil_of_le (by omega)]
    simp [X.nonZero]
  | succ n ih =>
    intro i acc hi ha
    rw [rdRw_at x i (by omega)]
    refine X.Ev.succ ?_
    simp only [spec_l2Sum.l1]
    by_cases h0 : (rd_T35 x (i : Int)).f3 = 0
    · have H := ih (i + 1) acc (by omega) (by omega)
      have e : X.nonZero (rd_T35 x (i : Int) :: x.drop (i + 1)) = X.nonZero (x.drop (i + 1)) := by simp [X.nonZero, h0]
      rw [e]
      refine X.Ev.of H (fun k => ?_)
      rw [if_pos (by omega), if_pos (by omega), if_pos h0, X.wnext (m := x.length) (by omega) (by omega)]
    · have H := ih (i + 1) (acc ++ [rd_T35 x (i : Int)]) (by omega) (by simp; omega)
      have e : X.nonZero (rd_T35 x (i : Int) :: x.drop (i + 1)) = rd_T35 x (i : Int) :: X.nonZero (x.drop (i + 1)) := by simp [X.nonZero, h0]
      rw [e]
      refine X.Ev.of (a := acc ++ rd_T35 x (i : Int) :: X.nonZero (x.drop (i + 1))) (f := fun k => spec_l2Sum.l1 k x (acc ++ [rd_T35 x (i : Int)]) ((i + 1 : Nat) : Int)) (by simpa using H) (fun k => ?_)
      rw [if_pos (by omega), if_pos (by omega), if_neg h0, if_pos (by omega), X.wnext (m := x.length) (by omega) (by omega)]
theorem l2Sum_0 (x : List X.Rw) (hx : x.length ≤ 400000000000) : ∀ n i : Nat, ∀ S : List X.Rw, i + n = x.length → S.length ≤ i → X.Ev (fun k => spec_l2Sum.l0 k x S i) (X.nonZero (X.putAll S (x.drop i))) := by
  intro n
  induction n with
  | zero =>
    intro i S hi hS
    have H := l2Sum_1 S (by omega) S.length 0 [] (by omega) (by simp; omega)
    refine X.Ev.succ ?_
    rw [List.drop_eq_nil_of_le (by omega), X.putAll]
    refine X.Ev.of (a := X.nonZero S) (f := fun k => spec_l2Sum.l1 k S [] 0) (by simpa using H) (fun k => ?_)
    simp only [spec_l2Sum.l0]
    rw [if_neg (by omega)]
  | succ n ih =>
    intro i S hi hS
    rw [rdRw_at x i (by omega), X.putAll]
    refine X.Ev.succ ?_
    have hl := put_len (rd_T35 x (i : Int)) S
    have H := ih (i + 1) (X.put (rd_T35 x (i : Int)) S) (by omega) (by omega)
    refine X.Ev.of (X.Ev.bind (g := fun k t => spec_l2Sum.l0 k x t ((i + 1 : Nat) : Int)) (l2Put_e S (by omega) (rd_T35 x (i : Int))) H) (fun k => ?_)
    simp only [spec_l2Sum.l0]
    rw [if_pos (by omega), if_pos (by omega), X.wnext (m := x.length) (by omega) (by omega)]
theorem l2Sum_e (x : List X.Rw) (hx : x.length ≤ 400000000000) : X.Ev (fun k => spec_l2Sum.f k x) (X.sum x) := by
  have := l2Sum_0 x hx x.length 0 [] (by omega) (by simp)
  simpa [spec_l2Sum.f, X.sum] using this
theorem rdIt2_at (l : List X.It) (i : Nat) (h : i < l.length) : l.drop i = rd_T90 l (i : Int) :: l.drop (i + 1) := by
  rw [X.getD_drop h z90]; simp [rd_T90]
theorem l2Items_1 (x : List X.Rw) (hx : x.length ≤ 1000000000000) : ∀ n i : Nat, ∀ acc : List X.It, i + n = x.length → acc.length + n ≤ 1000000000000 → X.Ev (fun k => spec_l2Items.l1 k x acc i) (acc ++ (x.drop i).map X.itemOf) := by
  intro n
  induction n with
  | zero =>
    intro i acc hi ha
    refine X.Ev.succ (X.Ev.all fun k => ?_)
    simp only [spec_l2Items.l1]
    rw [if_neg (by omega), List.drop_eq_nil_of_le (by omega)]
    simp
  | succ n ih =>
    intro i acc hi ha
    rw [rdRw_at x i (by omega)]
    refine X.Ev.succ ?_
    have H := ih (i + 1) (acc ++ [X.itemOf (rd_T35 x (i : Int))]) (by omega) (by simp; omega)
    refine X.Ev.of (a := acc ++ (rd_T35 x (i : Int) :: x.drop (i + 1)).map X.itemOf) (f := fun k => spec_l2Items.l1 k x (acc ++ [X.itemOf (rd_T35 x (i : Int))]) ((i + 1 : Nat) : Int)) (by simpa using H) (fun k => ?_)
    simp only [spec_l2Items.l1]
    rw [if_pos (by omega), if_pos (by omega), if_pos (by omega), X.wnext (m := x.length) (by omega) (by omega)]
    rfl
theorem nonZero_len (x : List X.Rw) : (X.nonZero x).length ≤ x.length := List.length_filter_le _ _
theorem putAll_len : ∀ (l S : List X.Rw), (X.putAll S l).length ≤ S.length + l.length
  | [], S => by simp [X.putAll]
  | r :: l, S => by
    have h1 := putAll_len l (X.put r S)
    have h2 := put_len r S
    rw [X.putAll, List.length_cons]; omega
theorem l2Items_0 (x : List X.It) (hx : x.length ≤ 400000000000) : ∀ n i : Nat, ∀ acc : List X.Rw, i + n = x.length → acc.length ≤ i → X.Ev (fun k => spec_l2Items.l0 k x acc i) ((X.sum (acc ++ (x.drop i).map X.rowOf)).map X.itemOf) := by
  intro n
  induction n with
  | zero =>
    intro i acc hi ha
    rw [List.drop_eq_nil_of_le (by omega), List.map_nil, List.append_nil]
    have hl : (X.sum acc).length ≤ acc.length := by
      have h1 := nonZero_len (X.putAll [] acc)
      have h2 := putAll_len acc []
      unfold X.sum; simp at h2; omega
    have H := l2Items_1 (X.sum acc) (by omega) (X.sum acc).length 0 [] (by omega) (by simp; omega)
    refine X.Ev.succ ?_
    refine X.Ev.of (X.Ev.bind (g := fun k t => spec_l2Items.l1 k t [] 0) (l2Sum_e acc (by omega)) (by simpa using H)) (fun k => ?_)
    simp only [spec_l2Items.l0]
    rw [if_neg (by omega)]
  | succ n ih =>
    intro i acc hi ha
    rw [rdIt2_at x i (by omega)]
    have H := ih (i + 1) (acc ++ [X.rowOf (rd_T90 x (i : Int))]) (by omega) (by simp; omega)
    refine X.Ev.succ ?_
    refine X.Ev.of (a := (X.sum (acc ++ (rd_T90 x (i : Int) :: x.drop (i + 1)).map X.rowOf)).map X.itemOf) (f := fun k => spec_l2Items.l0 k x (acc ++ [X.rowOf (rd_T90 x (i : Int))]) ((i + 1 : Nat) : Int)) (by simpa using H) (fun k => ?_)
    simp only [spec_l2Items.l0]
    rw [if_pos (by omega), if_pos (by omega), if_pos (by omega), X.wnext (m := x.length) (by omega) (by omega)]
    rfl
theorem l2Items_e (x : List X.It) (hx : x.length ≤ 400000000000) : X.Ev (fun k => spec_l2Items.f k x) (X.items x) := by
  have := l2Items_0 x hx x.length 0 [] (by omega) (by simp)
  simpa [spec_l2Items.f, X.items] using this

/-! each item mapped or kept -/
/-- what is made of an item -/
def fE (how : Int) (x : X.It) : List X.It := match impl_each.f x.f0 x.f1 how with
  | some (a, b, true) => [⟨a, b, x.f2⟩]
  | _ => []
theorem each_same {x : X.It} (hx : X.sOk x = true) {how : Int} (h0 : 1 ≤ how) (h1 : how ≤ 7) : spec_l3One.f x.f0 x.f1 how = impl_each.f x.f0 x.f1 how ∧ ∃ a b c, impl_each.f x.f0 x.f1 how = some (a, b, c) ∧ X.fitIt ⟨a, b, x.f2⟩ = true := by
  simp only [X.sOk, X.sItem, Bool.and_eq_true, decide_eq_true_eq] at hx
  obtain ⟨⟨⟨⟨g0, g1⟩, g2, g3⟩, g4⟩, g5, g6⟩ := hx
  have w0 : wrap64 (x.f1 - Int.tmod x.f1 4) = x.f1 - Int.tmod x.f1 4 := by rw [Int.tmod_eq_emod_of_nonneg g2]; unfold wrap64; omega
  have w1 : Int.tdiv x.f1 4 = x.f1 / 4 := Int.tdiv_eq_ediv_of_nonneg g2
  have w2 : wrap64 (x.f1 / 4) = x.f1 / 4 := by unfold wrap64; omega
  have w3 : wrap64 (x.f1 / 4 * 4) = x.f1 / 4 * 4 := by unfold wrap64; omega
  have w4 : Int.tmod x.f1 4 = x.f1 % 4 := Int.tmod_eq_emod_of_nonneg g2
  have w5 : wrap64 (x.f1 + 1) = x.f1 + 1 := by unfold wrap64; omega
  have w6 : x.f1 / 4 * 4 = x.f1 - x.f1 % 4 := by omega
  have w7 : Int.tmod (x.f1 + 1) 100 = (x.f1 + 1) % 100 := Int.tmod_eq_emod_of_nonneg (by omega)
  have hf : ∀ a b : Int, 0 ≤ a → a ≤ 1000 → 0 ≤ b → b ≤ 1000 → X.fitIt ⟨a, b, x.f2⟩ = true := fun a b h1 h2 h3 h4 => by
    have e0 := (X.wfI_iff a).2 (by omega)
    have e1 := (X.wfI_iff b).2 (by omega)
    have e2 := (X.wfI_iff x.f2).2 (by omega)
    unfold X.wfI at e0 e1 e2
    simp [X.fitIt, e0, e1, e2]
  have w8 : wrap64 (x.f1 - x.f1 % 4 + x.f0) = x.f1 - x.f1 % 4 + x.f0 := by unfold wrap64; omega
  have w9 : wrap64 (x.f1 - x.f1 % 4) = x.f1 - x.f1 % 4 := by unfold wrap64; omega
  unfold spec_l3One.f impl_each.f
  simp only [w1, w2, w3, w4, w5, w6, w7, w8, w9]
  by_cases c1 : how = 1
  · simp only [c1, if_true]; exact ⟨trivial, _, _, _, rfl, hf _ _ (by omega) (by omega) (by omega) (by omega)⟩
  by_cases c2 : how = 2
  · simp only [c1, c2, if_true, if_false]; exact ⟨trivial, _, _, _, rfl, hf _ _ (by omega) (by omega) (by omega) (by omega)⟩
  by_cases c3 : how = 3
  · simp only [c1, c2, c3, if_true, if_false]; exact ⟨trivial, _, _, _, rfl, hf _ _ (by omega) (by omega) (by omega) (by omega)⟩
  by_cases c4 : how = 4
  · simp only [c1, c2, c3, c4, if_true, if_false]; exact ⟨trivial, _, _, _, rfl, hf _ _ (by omega) (by omega) (by omega) (by omega)⟩
  by_cases c5 : how = 5
  · simp only [c1, c2, c3, c4, c5, if_true, if_false]; exact ⟨trivial, _, _, _, rfl, hf _ _ (by omega) (by omega) (by omega) (by omega)⟩
  by_cases c6 : how = 6
  · simp only [c1, c2, c3, c4, c5, c6, if_true, if_false]; exact ⟨trivial, _, _, _, rfl, hf _ _ (by omega) (by omega) (by omega) (by omega)⟩
  have c7 : how = 7 := by omega
  simp only [c1, c2, c3, c4, c5, c6, c7, if_true, if_false]; exact ⟨trivial, _, _, _, rfl, hf _ _ (by omega) (by omega) (by omega) (by omega)⟩
theorem sAsc_mem {l : List X.It} (h : X.sAsc l = true) : ∀ x ∈ l, X.sOk x = true := by
  have go : ∀ (l : List X.It) (p : X.It), X.sGo p l = true → ∀ x ∈ l, X.sOk x = true := by
    intro l
    induction l with
    | nil => intro p _ x hx; cases hx
    | cons a l ih =>
      intro p h x hx
      simp only [X.sGo, Bool.and_eq_true] at h
      rcases List.mem_cons.1 hx with rfl | hx
      · exact h.1.1
      · exact ih _ h.2 x hx
  cases l with
  | nil => intro x hx; cases hx
  | cons a l =>
    simp only [X.sAsc, Bool.and_eq_true] at h
    intro x hx
    rcases List.mem_cons.1 hx with rfl | hx
    · exact h.1
    · exact go l a h.2 x hx
theorem implEach_l {l : List X.It} (hl : l.length ≤ 400) (hok : ∀ x ∈ l, X.sOk x = true) {how : Int} (h0 : 1 ≤ how) (h1 : how ≤ 7) : ∀ n i : Nat, ∀ acc : List X.It, i + n = l.length → acc.length ≤ i → acc.all X.fitIt = true →
    X.Ev (fun k => impl_SetEach.l0 k how acc l l.length i) (X.items (acc ++ (l.drop i).flatMap (fE how))) := by
  intro n
  induction n with
  | zero =>
    intro i acc hi ha hf
    refine X.Ev.succ (X.Ev.all fun k => ?_)
    simp only [impl_SetEach.l0, impl_gathered.f]
    rw [if_neg (by omega), List.drop_eq_nil_of_le (by omega), if_pos ⟨hf, by omega⟩]
    simp
  | succ n ih =>
    intro i acc hi ha hf
    have hm : rd_T90 l (i : Int) ∈ l := by
      have := X.getD_some (l := l) (i := i) (by omega) z90
      exact List.mem_of_getElem? (by simpa [rd_T90] using this)
    obtain ⟨_, a, b, c, he, hfit⟩ := each_same (hok _ hm) h0 h1
    rw [rdIt2_at l i (by omega), List.flatMap_cons]
    refine X.Ev.succ ?_
    cases c
    · have hE : fE how (rd_T90 l (i : Int)) = [] := by unfold fE; rw [he]
      have H := ih (i + 1) acc (by omega) (by omega) hf
      rw [hE, List.nil_append]
      refine X.Ev.of H (fun k => ?_)
      simp only [impl_SetEach.l0]
      rw [if_pos (by omega), if_pos (by omega), if_pos (by omega), he, X.wnext (m := l.length) (by omega) (by omega)]
      simp
    · have hE : fE how (rd_T90 l (i : Int)) = [⟨a, b, (rd_T90 l (i : Int)).f2⟩] := by unfold fE; rw [he]
      have H := ih (i + 1) (acc ++ [⟨a, b, (rd_T90 l (i : Int)).f2⟩]) (by omega) (by simp; omega) (by rw [List.all_append, hf]; simpa using hfit)
      rw [hE]
      refine X.Ev.of (a := X.items (acc ++ ([⟨a, b, (rd_T90 l (i : Int)).f2⟩] ++ (l.drop (i + 1)).flatMap (fE how)))) (f := fun k => impl_SetEach.l0 k how (acc ++ [⟨a, b, (rd_T90 l (i : Int)).f2⟩]) l l.length ((i + 1 : Nat) : Int)) (by simpa using H) (fun k => ?_)
      simp only [impl_SetEach.l0]
      rw [if_pos (by omega), if_pos (by omega), if_pos (by omega), he, X.wnext (m := l.length) (by omega) (by omega)]
      simp only [Option.bind_some, if_true]
      rw [if_pos (by omega)]
theorem specEach_l {l : List X.It} (hl : l.length ≤ 400) (hset : X.setOk l = true) (hok : ∀ x ∈ l, X.sOk x = true) {how : Int} (h0 : 1 ≤ how) (h1 : how ≤ 7) : ∀ n i : Nat, ∀ acc : List X.It, i + n = l.length → acc.length ≤ i →
    X.Ev (fun k => spec_SetEach.l0 k l how acc i) (X.items (acc ++ (l.drop i).flatMap (fE how))) := by
  have hway : (decide (1 ≤ how) && decide (how ≤ 7)) = true := by simp [h0, h1]
  intro n
  induction n with
  | zero =>
    intro i acc hi ha
    refine X.Ev.succ ?_
    refine X.Ev.of (f := fun k => spec_SetEach.j1 k l how acc i false) ?_ (fun k => by simp only [spec_SetEach.l0]; rw [if_neg (by omega)])
    refine X.Ev.succ ?_
    simp only [spec_SetEach.j1, Bool.false_eq_true, if_false]
    rw [List.drop_eq_nil_of_le (by omega), List.flatMap_nil, List.append_nil]
    exact X.Ev.bind (l2Items_e acc (by omega)) (X.Ev.pure _)
  | succ n ih =>
    intro i acc hi ha
    have hm : rd_T90 l (i : Int) ∈ l := by
      have := X.getD_some (l := l) (i := i) (by omega) z90
      exact List.mem_of_getElem? (by simpa [rd_T90] using this)
    obtain ⟨hs, a, b, c, he, hfit⟩ := each_same (hok _ hm) h0 h1
    rw [he] at hs
    rw [rdIt2_at l i (by omega), List.flatMap_cons]
    refine X.Ev.succ ?_
    refine X.Ev.of (f := fun k => spec_SetEach.j1 k l how acc i true) ?_ (fun k => by simp only [spec_SetEach.l0, spec_SetOk.f, spec_l3Way.f, spec_l6In.f, Option.bind_some, hset, hway, if_true]; rw [if_pos (by omega)])
    refine X.Ev.succ ?_
    cases c
    · have hE : fE how (rd_T90 l (i : Int)) = [] := by unfold fE; rw [he]
      have H := ih (i + 1) acc (by omega) (by omega)
      rw [hE, List.nil_append]
      refine X.Ev.of H (fun k => ?_)
      simp only [spec_SetEach.j1, if_true]
      rw [if_pos (by omega), if_pos (by omega), hs, X.wnext (m := l.length) (by omega) (by omega)]
      simp
    · have hE : fE how (rd_T90 l (i : Int)) = [⟨a, b, (rd_T90 l (i : Int)).f2⟩] := by unfold fE; rw [he]
      have H := ih (i + 1) (acc ++ [⟨a, b, (rd_T90 l (i : Int)).f2⟩]) (by omega) (by simp; omega)
      rw [hE]
      refine X.Ev.of (a := X.items (acc ++ ([⟨a, b, (rd_T90 l (i : Int)).f2⟩] ++ (l.drop (i + 1)).flatMap (fE how)))) (f := fun k => spec_SetEach.l0 k l how (acc ++ [⟨a, b, (rd_T90 l (i : Int)).f2⟩]) ((i + 1 : Nat) : Int)) (by simpa using H) (fun k => ?_)
      simp only [spec_SetEach.j1, if_true]
      rw [if_pos (by omega), if_pos (by omega), hs, X.wnext (m := l.length) (by omega) (by omega)]
      simp only [Option.bind_some, if_true]
      rw [if_pos (by omega)]
theorem items_len (l : List X.It) : (X.items l).length ≤ l.length := by
  have h1 := nonZero_len (X.putAll [] (l.map X.rowOf))
  have h2 := putAll_len (l.map X.rowOf) []
  unfold X.items X.sum
  simp at h2 ⊢; omega
theorem fE_len (how : Int) : ∀ l : List X.It, (l.flatMap (fE how)).length ≤ l.length
  | [] => by simp
  | x :: l => by
    have h1 := fE_len how l
    have h2 : (fE how x).length ≤ 1 := by unfold fE; split <;> simp
    rw [List.flatMap_cons, List.length_append, List.length_cons]; omega
/-- both answer the same -/
theorem setEach_e (l : List X.It) (how : Int) : ∃ r : List X.It, r.length ≤ 1048576 ∧ X.Ev (fun k => impl_SetEach.f k l how) r ∧ X.Ev (fun k => spec_SetEach.f k l how) r := by
  by_cases hc : X.setOk l = true ∧ 1 ≤ how ∧ how ≤ 7
  · obtain ⟨hs, h0, h1⟩ := hc
    have hs' := hs
    simp only [X.setOk, Bool.and_eq_true, decide_eq_true_eq] at hs'
    have hok := sAsc_mem hs'.2
    refine ⟨X.items (l.flatMap (fE how)), ?_, ?_, ?_⟩
    · have h1 := items_len (l.flatMap (fE how))
      have h2 := fE_len how l
      omega
    · have H := implEach_l hs'.1 hok h0 h1 l.length 0 [] (by omega) (by simp) rfl
      simp only [impl_SetEach.f, impl_SetOk.f, Option.bind_some, hs, if_true, impl_howOk.f, if_pos (show how ≥ 1 from h0), decide_eq_true h1, Bool.not_true]
      refine X.Ev.succ ?_
      simp only [impl_SetEach.j0, Bool.false_eq_true, if_false]
      simpa using H
    · have H := specEach_l hs'.1 hs hok h0 h1 l.length 0 [] (by omega) (by simp)
      simpa [spec_SetEach.f] using H
  · refine ⟨[], by simp, ?_, ?_⟩
    · simp only [impl_SetEach.f, impl_SetOk.f, Option.bind_some]
      by_cases hs : X.setOk l = true
      · have hw : (if how ≥ 1 then some (decide (how ≤ 7)) else some false) = some false := by
          split
          · rw [decide_eq_false (fun h => hc ⟨hs, by assumption, h⟩)]
          · rfl
        simp only [hs, if_true, impl_howOk.f, hw, Option.bind_some, Bool.not_false]
        exact X.Ev.succ (X.Ev.all fun k => by simp only [impl_SetEach.j0, if_true])
      · simp only [hs]
        exact X.Ev.succ (X.Ev.all fun k => by simp [impl_SetEach.j0])
    · simp only [spec_SetEach.f]
      refine X.Ev.succ ?_
      have hb : X.Ev (fun k => spec_SetEach.j1 k l how [] 0 false) [] := by
        refine X.Ev.succ ?_
        simp only [spec_SetEach.j1, Bool.false_eq_true, if_false]
        exact X.Ev.bind (l2Items_e [] (by simp)) (X.Ev.pure _)
      refine X.Ev.of hb (fun k => ?_)
      simp only [spec_SetEach.l0, spec_SetOk.f, spec_l3Way.f, spec_l6In.f, Option.bind_some]
      split
      · by_cases hs : X.setOk l = true
        · have hw : (decide (1 ≤ how) && decide (how ≤ 7)) = false := by
            cases hq : (decide (1 ≤ how) && decide (how ≤ 7)) with
            | false => rfl
            | true => simp at hq; exact absurd ⟨hs, hq.1, hq.2⟩ hc
          rw [if_pos hs, hw]
        · rw [if_neg hs]
      · rfl

theorem FnExactSetEach (x : List X.It) (hx : x.length ≤ 9223372036854775807) (how : Int) : ∃ k, laws_FnExactSetEach.f k x how = some true := by
  refine X.Ev.get ?_
  simp only [laws_FnExactSetEach.f, szItemS_e x 1048576 (by omega) (by omega) hx, Option.bind_some]
  by_cases hb : (1048576 : Int) < x.length
  · simp only [if_pos hb]
    exact X.Ev.all fun k => by rw [if_pos (by omega)]
  simp only [if_neg hb, if_neg (show ¬ (1048576 : Int) - x.length < 0 by omega)]
  obtain ⟨r, hr, hi, hs⟩ := setEach_e x how
  have T := toItemS_e x (by omega)
  have E := eqItemS_e r (by omega)
  refine X.Ev.bind T ?_
  refine X.Ev.bind hs ?_
  refine X.Ev.bind T ?_
  refine X.Ev.bind hi ?_
  refine X.Ev.bind E ?_
  simp only [if_true]
  refine X.Ev.bind T ?_
  refine X.Ev.bind (eqItemS_e x (by omega)) ?_
  simp only [if_true]
  refine X.Ev.bind (markItemS_e x (by omega)) ?_
  simp only [if_neg (show ¬ (1 + 3 * (x.length : Int)) < 0 by omega)]
  refine X.Ev.bind E ?_
  simp only [Bool.not_true]
  refine X.Ev.succ ?_
  simp only [laws_FnExactSetEach.j0, Bool.false_eq_true, if_false]
  refine X.Ev.bind (markItemS_e r hr) ?_
  refine X.Ev.bind (heldItemS_e r.length hr) ?_
  simp only [if_neg (show ¬ (1 + 3 * (r.length : Int)) < 0 by omega), if_true]
  refine X.Ev.bind T ?_
  refine X.Ev.bind hi ?_
  refine X.Ev.bind E ?_
  simp only [if_true]
  refine X.Ev.bind (heldItemS_e r.length hr) ?_
  simp only [if_neg (show ¬ (1 + 3 * (r.length : Int)) < 0 by omega), if_true]
  exact X.Ev.pure _

end Go.Proofs.Ytdppnipodndcpaa.Pure
