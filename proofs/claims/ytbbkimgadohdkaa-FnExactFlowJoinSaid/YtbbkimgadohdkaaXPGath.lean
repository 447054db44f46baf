/- What impl.gathered hands back is what the reference's sum is: plain lemmas. Conditions: none. -/
import Derived.Test.YtbbkimgadohdkaaXPure
namespace Go.Proofs.Ytbbkimgadohdkaa.X
open Go.RowKit

def wfI (a : Int) : Prop := (Lit.int .i64 a).wf = true
def step3 (a b c : Int) (x : It) : Int := if x.f0 = a ∧ x.f1 = b then wrap64 (c + x.f2) else c
def cnt (l : List It) (a b : Int) : Int := l.foldl (step3 a b) 0
def keyed (l : List It) (a b : Int) : Bool := l.any fun x => decide (x.f0 = a) && decide (x.f1 = b)
theorem cnt_snoc (l : List It) (x : It) (a b : Int) : cnt (l ++ [x]) a b = step3 a b (cnt l a b) x := by simp [cnt]
theorem keyed_snoc (l : List It) (x : It) (a b : Int) : keyed (l ++ [x]) a b = (keyed l a b || (decide (x.f0 = a) && decide (x.f1 = b))) := by simp [keyed]
theorem wfI_iff (a : Int) : wfI a ↔ -9223372036854775808 ≤ a ∧ a ≤ 9223372036854775807 := by
  have h1 : IntKind.i64.min = -9223372036854775808 := by decide
  have h2 : IntKind.i64.max = 9223372036854775807 := by decide
  unfold wfI; simp [Lit.wf, h1, h2]
theorem wrap_wf {a : Int} (h : wfI a) : wrap64 a = a := by rw [wfI_iff] at h; unfold wrap64; omega
theorem cnt_none {l : List It} {a b : Int} (h : keyed l a b = false) : cnt l a b = 0 := by
  unfold cnt
  have : ∀ c, l.foldl (step3 a b) c = c := by
    induction l with
    | nil => intro c; rfl
    | cons x l ih =>
      intro c
      simp only [keyed, List.any_cons, Bool.or_eq_false_iff] at h
      rw [List.foldl_cons, ih h.2]
      unfold step3
      rw [if_neg (fun e => by have := h.1; rw [decide_eq_true e.1, decide_eq_true e.2] at this; cases this)]
  exact this 0
def fitIt (x : It) : Bool := (Lit.int .i64 x.f0).wf && (Lit.int .i64 x.f1).wf && (Lit.int .i64 x.f2).wf
theorem fit_all {l : List It} (h : l.all fitIt = true) : ∀ x ∈ l, wfI x.f0 ∧ wfI x.f1 ∧ wfI x.f2 := fun x hx => by
  have := List.all_eq_true.1 h x hx
  simp only [fitIt, Bool.and_eq_true] at this
  exact ⟨this.1.1, this.1.2, this.2⟩
/-- rows without a time, by key and value -/
def ltK (x y : Rw) : Prop := x.f0 < y.f0 ∨ (x.f0 = y.f0 ∧ x.f1 < y.f1)
def plainR (r : Rw) : Prop := r.f2 = ⟨0, 0⟩
theorem comp_pos {x r : Rw} (hx : plainR x) (hr : plainR r) : 0 < comp x r ↔ ltK r x := by
  unfold plainR at hx hr; unfold comp ltK; simp only [hx, hr]; repeat' split
  all_goals omega
theorem comp_zero {x r : Rw} (hx : plainR x) (hr : plainR r) : comp x r = 0 ↔ x.f0 = r.f0 ∧ x.f1 = r.f1 := by
  unfold plainR at hx hr; unfold comp; simp only [hx, hr]; repeat' split
  all_goals omega
theorem comp_zero1 {x r : Rw} (h2 : comp x r = 0) : x.f0 = r.f0 ∧ x.f1 = r.f1 := by
  unfold comp at h2; repeat' split at h2
  all_goals omega
def same (x r : Rw) : Prop := x.f0 = r.f0 ∧ x.f1 = r.f1
theorem put_mem {r : Rw} (hr : plainR r) : ∀ {S : List Rw}, (∀ x ∈ S, plainR x) → S.Pairwise ltK → ∀ y ∈ put r S,
    plainR y ∧ ((y ∈ S ∧ ¬ same y r) ∨ (same y r ∧ ((∃ x ∈ S, same x r ∧ y.f3 = wrap64 (r.f3 + x.f3)) ∨ ((∀ x ∈ S, ¬ same x r) ∧ y.f3 = r.f3))))
  | [], _, _, y, hy => by
    rw [put, List.mem_singleton] at hy
    subst hy
    exact ⟨hr, .inr ⟨⟨rfl, rfl⟩, .inr ⟨fun x hx => (by cases hx), rfl⟩⟩⟩
  | x :: xs, hp, ha, y, hy => by
    have hx : plainR x := hp x List.mem_cons_self
    have hpx : ∀ z ∈ xs, plainR z := fun z hz => hp z (List.mem_cons_of_mem _ hz)
    obtain ⟨ha1, ha2⟩ := List.pairwise_cons.1 ha
    rw [put] at hy
    by_cases h1 : 0 < comp x r
    · rw [if_pos h1] at hy
      have h1' := (comp_pos hx hr).1 h1
      have hno : ∀ z ∈ x :: xs, ¬ same z r := fun z hz e => by
        rcases List.mem_cons.1 hz with rfl | hz
        · unfold ltK at h1'; unfold same at e; omega
        · have := ha1 z hz; unfold ltK at h1' this; unfold same at e; omega
      rcases List.mem_cons.1 hy with rfl | hy
      · exact ⟨hr, .inr ⟨⟨rfl, rfl⟩, .inr ⟨hno, rfl⟩⟩⟩
      · exact ⟨hp y hy, .inl ⟨hy, hno y hy⟩⟩
    · rw [if_neg h1] at hy
      by_cases h2 : comp x r = 0
      · rw [if_pos h2] at hy
        have h2' := (comp_zero hx hr).1 h2
        rcases List.mem_cons.1 hy with rfl | hy
        · exact ⟨hr, .inr ⟨⟨rfl, rfl⟩, .inl ⟨x, List.mem_cons_self, h2', rfl⟩⟩⟩
        · refine ⟨hpx y hy, .inl ⟨List.mem_cons_of_mem _ hy, fun e => ?_⟩⟩
          have := ha1 y hy; unfold ltK at this; unfold same at e; omega
      · rw [if_neg h2] at hy
        rcases List.mem_cons.1 hy with rfl | hy
        · exact ⟨hx, .inl ⟨List.mem_cons_self, fun e => h2 ((comp_zero hx hr).2 e)⟩⟩
        · obtain ⟨hpy, hq⟩ := put_mem hr hpx ha2 y hy
          refine ⟨hpy, ?_⟩
          rcases hq with ⟨q1, q2⟩ | ⟨q1, q2⟩
          · exact .inl ⟨List.mem_cons_of_mem _ q1, q2⟩
          · refine .inr ⟨q1, ?_⟩
            rcases q2 with ⟨z, hz, q3, q4⟩ | ⟨q3, q4⟩
            · exact .inl ⟨z, List.mem_cons_of_mem _ hz, q3, q4⟩
            · refine .inr ⟨fun z hz e => ?_, q4⟩
              rcases List.mem_cons.1 hz with rfl | hz
              · exact h2 ((comp_zero hx hr).2 e)
              · exact q3 z hz e
theorem lt_same {x r z : Rw} {c : Int} (h : x.f0 = r.f0 ∧ x.f1 = r.f1) (h5 : ltK x z) : ltK { r with f3 := c } z := by unfold ltK at h5 ⊢; simp only; omega
theorem lt_third {x r : Rw} (n1 : ¬ ltK r x) (n2 : ¬ (x.f0 = r.f0 ∧ x.f1 = r.f1)) : ltK x r := by unfold ltK at n1 ⊢; omega
theorem lt_like {x r z : Rw} (q : same z r) (h : ltK x r) : ltK x z := by unfold ltK same at *; omega
theorem put_asc {r : Rw} (hr : plainR r) : ∀ {S : List Rw}, (∀ x ∈ S, plainR x) → S.Pairwise ltK → (put r S).Pairwise ltK
  | [], _, _ => List.pairwise_singleton _ _
  | x :: xs, hp, ha => by
    have hx : plainR x := hp x List.mem_cons_self
    have hpx : ∀ z ∈ xs, plainR z := fun z hz => hp z (List.mem_cons_of_mem _ hz)
    obtain ⟨ha1, ha2⟩ := List.pairwise_cons.1 ha
    rw [put]
    by_cases h1 : 0 < comp x r
    · rw [if_pos h1]
      have h1' := (comp_pos hx hr).1 h1
      refine List.pairwise_cons.2 ⟨fun z hz => ?_, ha⟩
      rcases List.mem_cons.1 hz with rfl | hz
      · exact h1'
      · have := ha1 z hz; unfold ltK at this h1' ⊢; clear h1 hr hx hpx ha1 ha2 ha hp; omega
    · rw [if_neg h1]
      by_cases h2 : comp x r = 0
      · rw [if_pos h2]
        have h2' := (comp_zero hx hr).1 h2
        refine List.pairwise_cons.2 ⟨fun z hz => ?_, ha2⟩
        have h5 := ha1 z hz
        exact lt_same h2' h5
      · rw [if_neg h2]
        refine List.pairwise_cons.2 ⟨fun z hz => ?_, put_asc hr hpx ha2⟩
        have hxr : ltK x r := by
          have n1 := mt (comp_pos hx hr).2 h1
          have n2 := mt (comp_zero hx hr).2 h2
          exact lt_third n1 n2
        obtain ⟨_, hq⟩ := put_mem hr hpx ha2 z hz
        rcases hq with ⟨q1, _⟩ | ⟨q1, _⟩
        · exact ha1 z q1
        · exact lt_like q1 hxr
theorem put_has {r : Rw} : ∀ {S : List Rw}, (∃ z ∈ put r S, same z r) ∧ ∀ y ∈ S, ∃ z ∈ put r S, same z y
  | [] => ⟨⟨r, (by simp [put]), rfl, rfl⟩, fun y hy => (by cases hy)⟩
  | x :: xs => by
    obtain ⟨⟨z, hz, e⟩, hall⟩ := put_has (r := r) (S := xs)
    rw [put]
    by_cases h1 : 0 < comp x r
    · rw [if_pos h1]
      exact ⟨⟨r, List.mem_cons_self, rfl, rfl⟩, fun y hy => ⟨y, List.mem_cons_of_mem _ hy, rfl, rfl⟩⟩
    · rw [if_neg h1]
      by_cases h2 : comp x r = 0
      · rw [if_pos h2]
        have hs := comp_zero1 h2
        refine ⟨⟨_, List.mem_cons_self, rfl, rfl⟩, fun y hy => ?_⟩
        rcases List.mem_cons.1 hy with rfl | hy
        · exact ⟨_, List.mem_cons_self, hs.1.symm, hs.2.symm⟩
        · exact ⟨y, List.mem_cons_of_mem _ hy, rfl, rfl⟩
      · rw [if_neg h2]
        refine ⟨⟨z, List.mem_cons_of_mem _ hz, e⟩, fun y hy => ?_⟩
        rcases List.mem_cons.1 hy with rfl | hy
        · exact ⟨_, List.mem_cons_self, rfl, rfl⟩
        · obtain ⟨u, hu, e2⟩ := hall y hy
          exact ⟨u, List.mem_cons_of_mem _ hu, e2⟩
structure SumI (l : List It) (S : List Rw) : Prop where
  plain : ∀ r ∈ S, plainR r
  asc : S.Pairwise ltK
  val : ∀ r ∈ S, r.f3 = cnt l r.f0 r.f1 ∧ keyed l r.f0 r.f1 = true
  all : ∀ a b, keyed l a b = true → ∃ r ∈ S, r.f0 = a ∧ r.f1 = b
theorem SumI.step {l : List It} {S : List Rw} (h : SumI l S) {x : It} (hx : wfI x.f2) : SumI (l ++ [x]) (put (rowOf x) S) := by
  have hr : plainR (rowOf x) := rfl
  refine ⟨fun y hy => (put_mem hr h.plain h.asc y hy).1, put_asc hr h.plain h.asc, fun y hy => ?_, fun a b hk => ?_⟩
  · obtain ⟨_, hq⟩ := put_mem hr h.plain h.asc y hy
    rw [cnt_snoc, keyed_snoc, step3]
    rcases hq with ⟨q1, q2⟩ | ⟨⟨e0, e1⟩, q2⟩
    · rw [if_neg (fun e => q2 ⟨e.1.symm, e.2.symm⟩), (h.val y q1).2, Bool.true_or]
      exact ⟨(h.val y q1).1, rfl⟩
    · rw [e0, e1]
      have ek : (decide (x.f0 = (rowOf x).f0) && decide (x.f1 = (rowOf x).f1)) = true := by simp [rowOf]
      refine ⟨?_, by rw [ek, Bool.or_true]⟩
      rw [if_pos ⟨rfl, rfl⟩]
      rcases q2 with ⟨z, hz, ⟨f0, f1⟩, q3⟩ | ⟨q3, q4⟩
      · rw [q3, (h.val z hz).1, f0, f1, Int.add_comm]; rfl
      · have hno : keyed l (rowOf x).f0 (rowOf x).f1 = false := by
          cases hk : keyed l (rowOf x).f0 (rowOf x).f1 with
          | false => rfl
          | true =>
            obtain ⟨u, hu, g0, g1⟩ := h.all _ _ hk
            exact absurd ⟨g0, g1⟩ (q3 u hu)
        rw [q4, cnt_none hno, Int.zero_add, wrap_wf hx]; rfl
  · rw [keyed_snoc] at hk
    obtain ⟨⟨z, hz, e⟩, hall⟩ := put_has (r := rowOf x) (S := S)
    rcases Bool.or_eq_true _ _ ▸ hk with hk | hk
    · obtain ⟨r, hr2, g0, g1⟩ := h.all a b hk
      obtain ⟨u, hu, e2⟩ := hall r hr2
      exact ⟨u, hu, e2.1.trans g0, e2.2.trans g1⟩
    · simp only [Bool.and_eq_true, decide_eq_true_eq] at hk
      exact ⟨z, hz, e.1.trans hk.1, e.2.trans hk.2⟩
theorem SumI.all_ (l : List It) (hl : ∀ x ∈ l, wfI x.f2) : ∀ (done : List It) (S : List Rw), SumI done S → SumI (done ++ l) (putAll S (l.map rowOf)) := by
  induction l with
  | nil => intro done S h; simpa [putAll] using h
  | cons x l ih =>
    intro done S h
    have h2 := ih (fun y hy => hl y (List.mem_cons_of_mem _ hy)) (done ++ [x]) _ (h.step (hl x List.mem_cons_self))
    simpa [putAll, List.append_assoc] using h2
theorem SumI.start : SumI [] [] := ⟨fun r hr => (by cases hr), List.Pairwise.nil, fun r hr => (by cases hr), fun a b h => (by cases h)⟩
/-- the reference's sum of items -/
theorem items_spec (l : List It) (hl : ∀ x ∈ l, wfI x.f2) : (items l).Pairwise (fun x y => x.f0 < y.f0 ∨ (x.f0 = y.f0 ∧ x.f1 < y.f1)) ∧ ∀ y, y ∈ items l ↔ (keyed l y.f0 y.f1 = true ∧ y.f2 = cnt l y.f0 y.f1 ∧ y.f2 ≠ 0) := by
  have h := SumI.all_ l hl [] [] SumI.start
  rw [List.nil_append] at h
  unfold items sum nonZero
  refine ⟨?_, fun y => ⟨fun hy => ?_, fun ⟨h1, h2, h3⟩ => ?_⟩⟩
  · rw [List.pairwise_map]
    exact (h.asc.filter _).imp (fun h => h)
  · obtain ⟨r, hr, rfl⟩ := List.mem_map.1 hy
    obtain ⟨hr1, hr2⟩ := List.mem_filter.1 hr
    exact ⟨(h.val r hr1).2, (h.val r hr1).1, by have h7 : ¬ r.f3 = 0 := (by simpa using hr2); exact h7⟩
  · obtain ⟨r, hr, e0, e1⟩ := h.all _ _ h1
    have hv := (h.val r hr).1
    refine List.mem_map.2 ⟨r, List.mem_filter.2 ⟨hr, ?_⟩, ?_⟩
    · rw [hv, e0, e1, ← h2]; simpa using h3
    · exact It.ext' e0 e1 (by show r.f3 = _; rw [hv, e0, e1, h2])
/-- two lists in order with the same members are one -/
theorem asc_unique {α : Type} {R : α → α → Prop} (hirr : ∀ x, ¬ R x x) (htr : ∀ x y z, R x y → R y z → R x z) : ∀ {l m : List α}, l.Pairwise R → m.Pairwise R → (∀ x, x ∈ l ↔ x ∈ m) → l = m
  | [], [], _, _, _ => rfl
  | [], y :: m, _, _, h => absurd ((h y).2 List.mem_cons_self) (by simp)
  | x :: l, [], _, _, h => absurd ((h x).1 List.mem_cons_self) (by simp)
  | x :: l, y :: m, hl, hm, h => by
    obtain ⟨hl1, hl2⟩ := List.pairwise_cons.1 hl
    obtain ⟨hm1, hm2⟩ := List.pairwise_cons.1 hm
    have hxy : x = y := by
      rcases List.mem_cons.1 ((h x).1 List.mem_cons_self) with e | e
      · exact e
      · rcases List.mem_cons.1 ((h y).2 List.mem_cons_self) with e2 | e2
        · exact e2.symm
        · exact absurd (htr _ _ _ (hl1 y e2) (hm1 x e)) (hirr _)
    subst hxy
    rw [asc_unique hirr htr hl2 hm2 (fun z => ⟨fun hz => ?_, fun hz => ?_⟩)]
    · rcases List.mem_cons.1 ((h z).1 (List.mem_cons_of_mem _ hz)) with e | e
      · subst e; exact absurd (hl1 z hz) (hirr _)
      · exact e
    · rcases List.mem_cons.1 ((h z).2 (List.mem_cons_of_mem _ hz)) with e | e
      · subst e; exact absurd (hm1 z hz) (hirr _)
      · exact e
end Go.Proofs.Ytbbkimgadohdkaa.X
