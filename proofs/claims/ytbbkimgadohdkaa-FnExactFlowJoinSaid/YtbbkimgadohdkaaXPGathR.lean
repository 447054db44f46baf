/- What impl.consolidated hands back is what the reference's sum is: plain lemmas on rows. Conditions: none. -/
import Derived.Test.YtbbkimgadohdkaaXPGath
namespace Go.Proofs.Ytbbkimgadohdkaa.X
open Go.RowKit

/-- rows of one key, value and time -/
def sameR (x r : Rw) : Prop := x.f0 = r.f0 ∧ x.f1 = r.f1 ∧ x.f2.f0 = r.f2.f0 ∧ x.f2.f1 = r.f2.f1
instance (x r : Rw) : Decidable (sameR x r) := by unfold sameR; infer_instance
theorem sameR_refl (x : Rw) : sameR x x := ⟨rfl, rfl, rfl, rfl⟩
theorem sameR_symm {x y : Rw} (h : sameR x y) : sameR y x := ⟨h.1.symm, h.2.1.symm, h.2.2.1.symm, h.2.2.2.symm⟩
theorem sameR_trans {x y z : Rw} (h : sameR x y) (k : sameR y z) : sameR x z := ⟨h.1.trans k.1, h.2.1.trans k.2.1, h.2.2.1.trans k.2.2.1, h.2.2.2.trans k.2.2.2⟩
def stepR (r : Rw) (c : Int) (x : Rw) : Int := if sameR x r then wrap64 (c + x.f3) else c
/-- what rows come to at a key, value and time -/
def rcnt (l : List Rw) (r : Rw) : Int := l.foldl (stepR r) 0
def rkeyed (l : List Rw) (r : Rw) : Bool := l.any fun x => decide (sameR x r)
theorem rcnt_snoc (l : List Rw) (x r : Rw) : rcnt (l ++ [x]) r = stepR r (rcnt l r) x := by simp [rcnt]
theorem rkeyed_snoc (l : List Rw) (x r : Rw) : rkeyed (l ++ [x]) r = (rkeyed l r || decide (sameR x r)) := by simp [rkeyed]
theorem stepR_like {r s : Rw} (h : sameR r s) (c : Int) (x : Rw) : stepR r c x = stepR s c x := by
  unfold stepR
  by_cases e : sameR x r
  · rw [if_pos e, if_pos (sameR_trans e h)]
  · rw [if_neg e, if_neg (fun k => e (sameR_trans k (sameR_symm h)))]
theorem rcnt_like {r s : Rw} (h : sameR r s) (l : List Rw) : rcnt l r = rcnt l s := by
  unfold rcnt; congr 1; funext c x; exact stepR_like h c x
theorem rkeyed_like {r s : Rw} (h : sameR r s) (l : List Rw) : rkeyed l r = rkeyed l s := by
  unfold rkeyed; congr 1; funext x
  by_cases e : sameR x r
  · rw [decide_eq_true e, decide_eq_true (sameR_trans e h)]
  · rw [decide_eq_false e, decide_eq_false (fun k => e (sameR_trans k (sameR_symm h)))]
theorem rcnt_none {l : List Rw} {r : Rw} (h : rkeyed l r = false) : rcnt l r = 0 := by
  unfold rcnt
  have : ∀ c, l.foldl (stepR r) c = c := by
    induction l with
    | nil => intro c; rfl
    | cons x l ih =>
      intro c
      simp only [rkeyed, List.any_cons, Bool.or_eq_false_iff] at h
      rw [List.foldl_cons, ih h.2]
      unfold stepR
      rw [if_neg (of_decide_eq_false h.1)]
  exact this 0
def fitRw (x : Rw) : Bool := (Lit.int .i64 x.f0).wf && (Lit.int .i64 x.f1).wf && (Lit.int .i64 x.f2.f0).wf && (Lit.int .i64 x.f2.f1).wf && (Lit.int .i64 x.f3).wf
theorem fitR_all {l : List Rw} (h : l.all fitRw = true) : ∀ x ∈ l, wfI x.f0 ∧ wfI x.f1 ∧ wfI x.f2.f0 ∧ wfI x.f2.f1 ∧ wfI x.f3 := fun x hx => by
  have := List.all_eq_true.1 h x hx
  simp only [fitRw, Bool.and_eq_true] at this
  exact ⟨this.1.1.1.1, this.1.1.1.2, this.1.1.2, this.1.2, this.2⟩
/-- by key, value and time -/
def ltR (x y : Rw) : Prop := x.f0 < y.f0 ∨ (x.f0 = y.f0 ∧ (x.f1 < y.f1 ∨ (x.f1 = y.f1 ∧ (x.f2.f0 < y.f2.f0 ∨ (x.f2.f0 = y.f2.f0 ∧ x.f2.f1 < y.f2.f1)))))
theorem rowAhead_iff (x y : Rw) : rowAhead x y = true ↔ ltR x y := by
  unfold rowAhead ltR ahead
  by_cases h0 : x.f0 = y.f0
  · rw [if_neg (by simpa using h0)]
    by_cases h1 : x.f1 = y.f1
    · rw [if_neg (by simpa using h1)]; simp only [Bool.or_eq_true, Bool.and_eq_true, decide_eq_true_eq]; omega
    · rw [if_pos h1, decide_eq_true_eq]; omega
  · rw [if_pos h0, decide_eq_true_eq]; omega
theorem compR_pos (x r : Rw) : 0 < comp x r ↔ ltR r x := by
  unfold comp ltR; repeat' split
  all_goals omega
theorem compR_zero (x r : Rw) : comp x r = 0 ↔ sameR x r := by
  unfold comp sameR; repeat' split
  all_goals omega
theorem ltR_irr (x : Rw) : ¬ ltR x x := by unfold ltR; omega
theorem ltR_trans {x y z : Rw} (h : ltR x y) (k : ltR y z) : ltR x z := by unfold ltR at *; omega
theorem ltR_same {x y z : Rw} (h : sameR x y) (k : ltR x z) : ltR y z := by unfold ltR sameR at *; omega
theorem ltR_same2 {x y z : Rw} (h : sameR y z) (k : ltR x y) : ltR x z := by unfold ltR sameR at *; omega
theorem ltR_third {x y : Rw} (h : ¬ ltR y x) (k : ¬ sameR x y) : ltR x y := by unfold ltR sameR at *; omega
theorem ltR_ne {x y : Rw} (h : ltR x y) : ¬ sameR x y := by unfold ltR sameR at *; omega
theorem putR_mem {r : Rw} : ∀ {S : List Rw}, S.Pairwise ltR → ∀ y ∈ put r S,
    (y ∈ S ∧ ¬ sameR y r) ∨ (sameR y r ∧ ((∃ x ∈ S, sameR x r ∧ y.f3 = wrap64 (r.f3 + x.f3)) ∨ ((∀ x ∈ S, ¬ sameR x r) ∧ y.f3 = r.f3)))
  | [], _, y, hy => by
    rw [put, List.mem_singleton] at hy
    subst hy
    exact .inr ⟨sameR_refl _, .inr ⟨fun x hx => (by cases hx), rfl⟩⟩
  | x :: xs, ha, y, hy => by
    obtain ⟨ha1, ha2⟩ := List.pairwise_cons.1 ha
    rw [put] at hy
    by_cases h1 : 0 < comp x r
    · rw [if_pos h1] at hy
      have h1' := (compR_pos x r).1 h1
      have hno : ∀ z ∈ x :: xs, ¬ sameR z r := fun z hz e => by
        rcases List.mem_cons.1 hz with rfl | hz
        · exact ltR_ne h1' (sameR_symm e)
        · exact ltR_ne (ltR_trans h1' (ha1 z hz)) (sameR_symm e)
      rcases List.mem_cons.1 hy with rfl | hy
      · exact .inr ⟨sameR_refl _, .inr ⟨hno, rfl⟩⟩
      · exact .inl ⟨hy, hno y hy⟩
    · rw [if_neg h1] at hy
      by_cases h2 : comp x r = 0
      · rw [if_pos h2] at hy
        have h2' := (compR_zero x r).1 h2
        rcases List.mem_cons.1 hy with rfl | hy
        · exact .inr ⟨⟨rfl, rfl, rfl, rfl⟩, .inl ⟨x, List.mem_cons_self, h2', rfl⟩⟩
        · exact .inl ⟨List.mem_cons_of_mem _ hy, fun e => ltR_ne (ltR_same h2' (ha1 y hy)) (sameR_symm e)⟩
      · rw [if_neg h2] at hy
        rcases List.mem_cons.1 hy with rfl | hy
        · exact .inl ⟨List.mem_cons_self, fun e => h2 ((compR_zero _ _).2 e)⟩
        · rcases putR_mem ha2 y hy with ⟨q1, q2⟩ | ⟨q1, q2⟩
          · exact .inl ⟨List.mem_cons_of_mem _ q1, q2⟩
          · refine .inr ⟨q1, ?_⟩
            rcases q2 with ⟨z, hz, q3, q4⟩ | ⟨q3, q4⟩
            · exact .inl ⟨z, List.mem_cons_of_mem _ hz, q3, q4⟩
            · refine .inr ⟨fun z hz e => ?_, q4⟩
              rcases List.mem_cons.1 hz with rfl | hz
              · exact h2 ((compR_zero _ _).2 e)
              · exact q3 z hz e
theorem putR_asc {r : Rw} : ∀ {S : List Rw}, S.Pairwise ltR → (put r S).Pairwise ltR
  | [], _ => List.pairwise_singleton _ _
  | x :: xs, ha => by
    obtain ⟨ha1, ha2⟩ := List.pairwise_cons.1 ha
    rw [put]
    by_cases h1 : 0 < comp x r
    · rw [if_pos h1]
      have h1' := (compR_pos x r).1 h1
      refine List.pairwise_cons.2 ⟨fun z hz => ?_, ha⟩
      rcases List.mem_cons.1 hz with rfl | hz
      · exact h1'
      · exact ltR_trans h1' (ha1 z hz)
    · rw [if_neg h1]
      by_cases h2 : comp x r = 0
      · rw [if_pos h2]
        exact List.pairwise_cons.2 ⟨fun z hz => ltR_same ((compR_zero x r).1 h2) (ha1 z hz), ha2⟩
      · rw [if_neg h2]
        have hxr : ltR x r := ltR_third (mt (compR_pos x r).2 h1) (mt (compR_zero x r).2 h2)
        refine List.pairwise_cons.2 ⟨fun z hz => ?_, putR_asc ha2⟩
        rcases putR_mem ha2 z hz with ⟨q1, _⟩ | ⟨q1, _⟩
        · exact ha1 z q1
        · exact ltR_same2 (sameR_symm q1) hxr
theorem putR_has {r : Rw} : ∀ {S : List Rw}, (∃ z ∈ put r S, sameR z r) ∧ ∀ y ∈ S, ∃ z ∈ put r S, sameR z y
  | [] => ⟨⟨r, (by simp [put]), sameR_refl _⟩, fun y hy => (by cases hy)⟩
  | x :: xs => by
    obtain ⟨⟨z, hz, e⟩, hall⟩ := putR_has (r := r) (S := xs)
    rw [put]
    by_cases h1 : 0 < comp x r
    · rw [if_pos h1]
      exact ⟨⟨r, List.mem_cons_self, sameR_refl _⟩, fun y hy => ⟨y, List.mem_cons_of_mem _ hy, sameR_refl _⟩⟩
    · rw [if_neg h1]
      by_cases h2 : comp x r = 0
      · rw [if_pos h2]
        have hs := (compR_zero x r).1 h2
        refine ⟨⟨_, List.mem_cons_self, ⟨rfl, rfl, rfl, rfl⟩⟩, fun y hy => ?_⟩
        rcases List.mem_cons.1 hy with rfl | hy
        · exact ⟨_, List.mem_cons_self, sameR_trans ⟨rfl, rfl, rfl, rfl⟩ (sameR_symm hs)⟩
        · exact ⟨y, List.mem_cons_of_mem _ hy, sameR_refl _⟩
      · rw [if_neg h2]
        refine ⟨⟨z, List.mem_cons_of_mem _ hz, e⟩, fun y hy => ?_⟩
        rcases List.mem_cons.1 hy with rfl | hy
        · exact ⟨_, List.mem_cons_self, sameR_refl _⟩
        · obtain ⟨u, hu, e2⟩ := hall y hy
          exact ⟨u, List.mem_cons_of_mem _ hu, e2⟩
structure SumR (l : List Rw) (S : List Rw) : Prop where
  asc : S.Pairwise ltR
  val : ∀ r ∈ S, r.f3 = rcnt l r ∧ rkeyed l r = true
  all : ∀ k, rkeyed l k = true → ∃ r ∈ S, sameR r k
theorem SumR.step {l : List Rw} {S : List Rw} (h : SumR l S) {x : Rw} (hx : wfI x.f3) : SumR (l ++ [x]) (put x S) := by
  refine ⟨putR_asc h.asc, fun y hy => ?_, fun k hk => ?_⟩
  · rw [rcnt_snoc, rkeyed_snoc, stepR]
    rcases putR_mem h.asc y hy with ⟨q1, q2⟩ | ⟨q1, q2⟩
    · rw [if_neg (fun e => q2 (sameR_symm e)), (h.val y q1).2, Bool.true_or]
      exact ⟨(h.val y q1).1, rfl⟩
    · rw [if_pos (sameR_symm q1), decide_eq_true (sameR_symm q1), Bool.or_true]
      refine ⟨?_, rfl⟩
      rw [rcnt_like q1]
      rcases q2 with ⟨z, hz, q3, q4⟩ | ⟨q3, q4⟩
      · rw [q4, (h.val z hz).1, rcnt_like q3, Int.add_comm]
      · have hno : rkeyed l x = false := by
          cases hk : rkeyed l x with
          | false => rfl
          | true =>
            obtain ⟨u, hu, g⟩ := h.all _ hk
            exact absurd g (q3 u hu)
        rw [q4, rcnt_none hno, Int.zero_add, wrap_wf hx]
  · rw [rkeyed_snoc] at hk
    obtain ⟨⟨z, hz, e⟩, hall⟩ := putR_has (r := x) (S := S)
    rcases Bool.or_eq_true _ _ ▸ hk with hk | hk
    · obtain ⟨r, hr2, g⟩ := h.all k hk
      obtain ⟨u, hu, e2⟩ := hall r hr2
      exact ⟨u, hu, sameR_trans e2 g⟩
    · exact ⟨z, hz, sameR_trans e (of_decide_eq_true hk)⟩
theorem SumR.all_ (l : List Rw) (hl : ∀ x ∈ l, wfI x.f3) : ∀ (done : List Rw) (S : List Rw), SumR done S → SumR (done ++ l) (putAll S l) := by
  induction l with
  | nil => intro done S h; simpa [putAll] using h
  | cons x l ih =>
    intro done S h
    have h2 := ih (fun y hy => hl y (List.mem_cons_of_mem _ hy)) (done ++ [x]) _ (h.step (hl x List.mem_cons_self))
    simpa [putAll, List.append_assoc] using h2
theorem SumR.start : SumR [] [] := ⟨List.Pairwise.nil, fun r hr => (by cases hr), fun a h => (by cases h)⟩
/-- the reference's sum of rows -/
theorem sum_spec (l : List Rw) (hl : ∀ x ∈ l, wfI x.f3) : (sum l).Pairwise ltR ∧ ∀ y, y ∈ sum l ↔ (rkeyed l y = true ∧ y.f3 = rcnt l y ∧ y.f3 ≠ 0) := by
  have h := SumR.all_ l hl [] [] SumR.start
  rw [List.nil_append] at h
  unfold sum nonZero
  refine ⟨h.asc.filter _, fun y => ⟨fun hy => ?_, fun ⟨h1, h2, h3⟩ => ?_⟩⟩
  · obtain ⟨hr1, hr2⟩ := List.mem_filter.1 hy
    exact ⟨(h.val y hr1).2, (h.val y hr1).1, by have h7 : ¬ y.f3 = 0 := (by simpa using hr2); exact h7⟩
  · obtain ⟨r, hr, e⟩ := h.all _ h1
    have hv := (h.val r hr).1
    have : r = y := Rw.ext' e.1 e.2.1 (Tm.ext' e.2.2.1 e.2.2.2) (by rw [hv, h2, rcnt_like e])
    subst this
    exact List.mem_filter.2 ⟨hr, by simpa using h3⟩
end Go.Proofs.Ytbbkimgadohdkaa.X
