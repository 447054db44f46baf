/- Conditions: none. -/
import Derived.RowKit
namespace Go.Proofs.Ytkdendlgaaimbaa.X
open Go.RowKit
structure Tm where
 f0 : Int
 f1 : Int
structure Rw where
 f0 : Int
 f1 : Int
 f2 : Tm
 f3 : Int
structure It where
 f0 : Int
 f1 : Int
 f2 : Int
theorem Tm.ext' {s t : Tm} (h1 : s.f0 = t.f0) (h2 : s.f1 = t.f1) : s = t := by cases s; cases t; simp_all
theorem Rw.ext' {s t : Rw} (h1 : s.f0 = t.f0) (h2 : s.f1 = t.f1) (h3 : s.f2 = t.f2) (h4 : s.f3 = t.f3) : s = t := by cases s; cases t; simp_all
theorem It.ext' {s t : It} (h1 : s.f0 = t.f0) (h2 : s.f1 = t.f1) (h4 : s.f2 = t.f2) : s = t := by cases s; cases t; simp_all
instance : DecidableEq Tm := fun s t => if h : s.f0 = t.f0 ∧ s.f1 = t.f1 then isTrue (Tm.ext' h.1 h.2) else isFalse (fun e => h ⟨by rw [e], by rw [e]⟩)
instance : DecidableEq Rw := fun s t => if h : s.f0 = t.f0 ∧ s.f1 = t.f1 ∧ s.f2 = t.f2 ∧ s.f3 = t.f3 then isTrue (Rw.ext' h.1 h.2.1 h.2.2.1 h.2.2.2) else isFalse (fun e => h ⟨by rw [e], by rw [e], by rw [e], by rw [e]⟩)
instance : DecidableEq It := fun s t => if h : s.f0 = t.f0 ∧ s.f1 = t.f1 ∧ s.f2 = t.f2 then isTrue (It.ext' h.1 h.2.1 h.2.2) else isFalse (fun e => h ⟨by rw [e], by rw [e], by rw [e]⟩)
instance : Inhabited Tm := ⟨⟨0, 0⟩⟩
instance : Inhabited Rw := ⟨⟨0, 0, ⟨0, 0⟩, 0⟩⟩
instance : Inhabited It := ⟨⟨0, 0, 0⟩⟩
def comp (a b : Rw) : Int := if a.f0 < b.f0 then -1 else if a.f0 > b.f0 then 1 else if a.f1 < b.f1 then -1 else if a.f1 > b.f1 then 1 else if a.f2.f0 < b.f2.f0 then -1 else if a.f2.f0 > b.f2.f0 then 1 else if a.f2.f1 < b.f2.f1 then -1 else if a.f2.f1 > b.f2.f1 then 1 else 0
def ahead (s t : Tm) : Bool := decide (s.f0 < t.f0) || (decide (s.f0 = t.f0) && decide (s.f1 < t.f1))
def rowAhead (x y : Rw) : Bool := if x.f0 ≠ y.f0 then decide (x.f0 < y.f0) else if x.f1 ≠ y.f1 then decide (x.f1 < y.f1) else ahead x.f2 y.f2
def ascGo (p : Rw) : List Rw → Bool
 | [] => true
 | r :: l => decide (r.f3 ≠ 0) && rowAhead p r && ascGo r l
def asc : List Rw → Bool
 | [] => true
 | r :: l => decide (r.f3 ≠ 0) && ascGo r l
def put (r : Rw) : List Rw → List Rw
 | [] => [r]
 | x :: xs => if 0 < comp x r then r :: x :: xs else if comp x r = 0 then { r with f3 := wrap64 (r.f3 + x.f3) } :: xs else x :: put r xs
def putAll (s : List Rw) : List Rw → List Rw
 | [] => s
 | r :: l => putAll (put r s) l
def nonZero (l : List Rw) : List Rw := l.filter fun r => decide (r.f3 ≠ 0)
def sum (l : List Rw) : List Rw := nonZero (putAll [] l)
def rowOf (x : It) : Rw := ⟨x.f0, x.f1, ⟨0, 0⟩, x.f2⟩
def itemOf (r : Rw) : It := ⟨r.f0, r.f1, r.f3⟩
def items (l : List It) : List It := (sum (l.map rowOf)).map itemOf
end Go.Proofs.Ytkdendlgaaimbaa.X
namespace Go.Proofs.Ytkdendlgaaimbaa.X
open Go.RowKit
end Go.Proofs.Ytkdendlgaaimbaa.X
namespace Go.Proofs.Ytkdendlgaaimbaa.X
open Go.RowKit
def wfI (a : Int) : Prop := (Lit.int .i64 a).wf = true
def step3 (a b c : Int) (x : It) : Int := if x.f0 = a ∧ x.f1 = b then wrap64 (c + x.f2) else c
def cnt (l : List It) (a b : Int) : Int := l.foldl (step3 a b) 0
def keyed (l : List It) (a b : Int) : Bool := l.any fun x => decide (x.f0 = a) && decide (x.f1 = b)
theorem cnt_snoc (l : List It) (x : It) (a b : Int) : cnt (l ++ [x]) a b = step3 a b (cnt l a b) x := by simp [cnt]
theorem keyed_snoc (l : List It) (x : It) (a b : Int) : keyed (l ++ [x]) a b = (keyed l a b || (decide (x.f0 = a) && decide (x.f1 = b))) := by simp [keyed]
theorem wfI_iff (a : Int) : wfI a ↔ -9223372036854775808 ≤ a ∧ a ≤ 9223372036854775807 := by
 have h1 : IntKind.i64.min = -9223372036854775808 := by decide
 have h2 : IntKind.i64.max = 9223372036854775807 := by decide
 unfold wfI; simp [Lit.wf, h1, h2]
theorem wrap_wf {a : Int} (h : wfI a) : wrap64 a = a := by rw [wfI_iff] at h; unfold wrap64; omega
theorem cnt_none {l : List It} {a b : Int} (h : keyed l a b = false) : cnt l a b = 0 := by
 unfold cnt
 have : ∀ c, l.foldl (step3 a b) c = c := by
  induction l with
  | nil => intro c; rfl
  | cons x l ih =>
   intro c
   simp only [keyed, List.any_cons, Bool.or_eq_false_iff] at h
   rw [List.foldl_cons, ih h.2]
   unfold step3
   rw [if_neg (fun e => by have := h.1; rw [decide_eq_true e.1, decide_eq_true e.2] at this; cases this)]
 exact this 0
def ltK (x y : Rw) : Prop := x.f0 < y.f0 ∨ (x.f0 = y.f0 ∧ x.f1 < y.f1)
def plainR (r : Rw) : Prop := r.f2 = ⟨0, 0⟩
theorem comp_pos {x r : Rw} (hx : plainR x) (hr : plainR r) : 0 < comp x r ↔ ltK r x := by
 unfold plainR at hx hr; unfold comp ltK; simp only [hx, hr]; repeat' split
 all_goals omega
theorem comp_zero {x r : Rw} (hx : plainR x) (hr : plainR r) : comp x r = 0 ↔ x.f0 = r.f0 ∧ x.f1 = r.f1 := by
 unfold plainR at hx hr; unfold comp; simp only [hx, hr]; repeat' split
 all_goals omega
theorem comp_zero1 {x r : Rw} (h2 : comp x r = 0) : x.f0 = r.f0 ∧ x.f1 = r.f1 := by
 unfold comp at h2; repeat' split at h2
 all_goals omega
def same (x r : Rw) : Prop := x.f0 = r.f0 ∧ x.f1 = r.f1
theorem put_mem {r : Rw} (hr : plainR r) : ∀ {S : List Rw}, (∀ x ∈ S, plainR x) → S.Pairwise ltK → ∀ y ∈ put r S,
  plainR y ∧ ((y ∈ S ∧ ¬ same y r) ∨ (same y r ∧ ((∃ x ∈ S, same x r ∧ y.f3 = wrap64 (r.f3 + x.f3)) ∨ ((∀ x ∈ S, ¬ same x r) ∧ y.f3 = r.f3))))
 | [], _, _, y, hy => by
  rw [put, List.mem_singleton] at hy
  subst hy
  exact ⟨hr, .inr ⟨⟨rfl, rfl⟩, .inr ⟨fun x hx => (by cases hx), rfl⟩⟩⟩
 | x :: xs, hp, ha, y, hy => by
  have hx : plainR x := hp x List.mem_cons_self
  have hpx : ∀ z ∈ xs, plainR z := fun z hz => hp z (List.mem_cons_of_mem _ hz)
  obtain ⟨ha1, ha2⟩ := List.pairwise_cons.1 ha
  rw [put] at hy
  by_cases h1 : 0 < comp x r
  ·rw [if_pos h1] at hy
   have h1' := (comp_pos hx hr).1 h1
   have hno : ∀ z ∈ x :: xs, ¬ same z r := fun z hz e => by
    rcases List.mem_cons.1 hz with rfl | hz
    ·unfold ltK at h1'; unfold same at e; omega
    ·have := ha1 z hz; unfold ltK at h1' this; unfold same at e; omega
   rcases List.mem_cons.1 hy with rfl | hy
   ·exact ⟨hr, .inr ⟨⟨rfl, rfl⟩, .inr ⟨hno, rfl⟩⟩⟩
   ·exact ⟨hp y hy, .inl ⟨hy, hno y hy⟩⟩
  ·rw [if_neg h1] at hy
   by_cases h2 : comp x r = 0
   ·rw [if_pos h2] at hy
    have h2' := (comp_zero hx hr).1 h2
    rcases List.mem_cons.1 hy with rfl | hy
    ·exact ⟨hr, .inr ⟨⟨rfl, rfl⟩, .inl ⟨x, List.mem_cons_self, h2', rfl⟩⟩⟩
    ·refine ⟨hpx y hy, .inl ⟨List.mem_cons_of_mem _ hy, fun e => ?_⟩⟩
     have := ha1 y hy; unfold ltK at this; unfold same at e; omega
   ·rw [if_neg h2] at hy
    rcases List.mem_cons.1 hy with rfl | hy
    ·exact ⟨hx, .inl ⟨List.mem_cons_self, fun e => h2 ((comp_zero hx hr).2 e)⟩⟩
    ·obtain ⟨hpy, hq⟩ := put_mem hr hpx ha2 y hy
     refine ⟨hpy, ?_⟩
     rcases hq with ⟨q1, q2⟩ | ⟨q1, q2⟩
     ·exact .inl ⟨List.mem_cons_of_mem _ q1, q2⟩
     ·refine .inr ⟨q1, ?_⟩
      rcases q2 with ⟨z, hz, q3, q4⟩ | ⟨q3, q4⟩
      ·exact .inl ⟨z, List.mem_cons_of_mem _ hz, q3, q4⟩
      ·refine .inr ⟨fun z hz e => ?_, q4⟩
       rcases List.mem_cons.1 hz with rfl | hz
       ·exact h2 ((comp_zero hx hr).2 e)
       ·exact q3 z hz e
theorem lt_same {x r z : Rw} {c : Int} (h : x.f0 = r.f0 ∧ x.f1 = r.f1) (h5 : ltK x z) : ltK { r with f3 := c } z := by unfold ltK at h5 ⊢; simp only; omega
theorem lt_third {x r : Rw} (n1 : ¬ ltK r x) (n2 : ¬ (x.f0 = r.f0 ∧ x.f1 = r.f1)) : ltK x r := by unfold ltK at n1 ⊢; omega
theorem lt_like {x r z : Rw} (q : same z r) (h : ltK x r) : ltK x z := by unfold ltK same at *; omega
theorem put_asc {r : Rw} (hr : plainR r) : ∀ {S : List Rw}, (∀ x ∈ S, plainR x) → S.Pairwise ltK → (put r S).Pairwise ltK
 | [], _, _ => List.pairwise_singleton _ _
 | x :: xs, hp, ha => by
  have hx : plainR x := hp x List.mem_cons_self
  have hpx : ∀ z ∈ xs, plainR z := fun z hz => hp z (List.mem_cons_of_mem _ hz)
  obtain ⟨ha1, ha2⟩ := List.pairwise_cons.1 ha
  rw [put]
  by_cases h1 : 0 < comp x r
  ·rw [if_pos h1]
   have h1' := (comp_pos hx hr).1 h1
   refine List.pairwise_cons.2 ⟨fun z hz => ?_, ha⟩
   rcases List.mem_cons.1 hz with rfl | hz
   ·exact h1'
   ·have := ha1 z hz; unfold ltK at this h1' ⊢; clear h1 hr hx hpx ha1 ha2 ha hp; omega
  ·rw [if_neg h1]
   by_cases h2 : comp x r = 0
   ·rw [if_pos h2]
    have h2' := (comp_zero hx hr).1 h2
    refine List.pairwise_cons.2 ⟨fun z hz => ?_, ha2⟩
    have h5 := ha1 z hz
    exact lt_same h2' h5
   ·rw [if_neg h2]
    refine List.pairwise_cons.2 ⟨fun z hz => ?_, put_asc hr hpx ha2⟩
    have hxr : ltK x r := by
     have n1 := mt (comp_pos hx hr).2 h1
     have n2 := mt (comp_zero hx hr).2 h2
     exact lt_third n1 n2
    obtain ⟨_, hq⟩ := put_mem hr hpx ha2 z hz
    rcases hq with ⟨q1, _⟩ | ⟨q1, _⟩
    ·exact ha1 z q1
    ·exact lt_like q1 hxr
theorem put_has {r : Rw} : ∀ {S : List Rw}, (∃ z ∈ put r S, same z r) ∧ ∀ y ∈ S, ∃ z ∈ put r S, same z y
 | [] => ⟨⟨r, (by simp [put]), rfl, rfl⟩, fun y hy => (by cases hy)⟩
 | x :: xs => by
  obtain ⟨⟨z, hz, e⟩, hall⟩ := put_has (r := r) (S := xs)
  rw [put]
  by_cases h1 : 0 < comp x r
  ·rw [if_pos h1]
   exact ⟨⟨r, List.mem_cons_self, rfl, rfl⟩, fun y hy => ⟨y, List.mem_cons_of_mem _ hy, rfl, rfl⟩⟩
  ·rw [if_neg h1]
   by_cases h2 : comp x r = 0
   ·rw [if_pos h2]
    have hs := comp_zero1 h2
    refine ⟨⟨_, List.mem_cons_self, rfl, rfl⟩, fun y hy => ?_⟩
    rcases List.mem_cons.1 hy with rfl | hy
    ·exact ⟨_, List.mem_cons_self, hs.1.symm, hs.2.symm⟩
    ·exact ⟨y, List.mem_cons_of_mem _ hy, rfl, rfl⟩
   ·rw [if_neg h2]
    refine ⟨⟨z, List.mem_cons_of_mem _ hz, e⟩, fun y hy => ?_⟩
    rcases List.mem_cons.1 hy with rfl | hy
    ·exact ⟨_, List.mem_cons_self, rfl, rfl⟩
    ·obtain ⟨u, hu, e2⟩ := hall y hy
     exact ⟨u, List.mem_cons_of_mem _ hu, e2⟩
structure SumI (l : List It) (S : List Rw) : Prop where
 plain : ∀ r ∈ S, plainR r
 asc : S.Pairwise ltK
 val : ∀ r ∈ S, r.f3 = cnt l r.f0 r.f1 ∧ keyed l r.f0 r.f1 = true
 all : ∀ a b, keyed l a b = true → ∃ r ∈ S, r.f0 = a ∧ r.f1 = b
theorem SumI.step {l : List It} {S : List Rw} (h : SumI l S) {x : It} (hx : wfI x.f2) : SumI (l ++ [x]) (put (rowOf x) S) := by
 have hr : plainR (rowOf x) := rfl
 refine ⟨fun y hy => (put_mem hr h.plain h.asc y hy).1, put_asc hr h.plain h.asc, fun y hy => ?_, fun a b hk => ?_⟩
 ·obtain ⟨_, hq⟩ := put_mem hr h.plain h.asc y hy
  rw [cnt_snoc, keyed_snoc, step3]
  rcases hq with ⟨q1, q2⟩ | ⟨⟨e0, e1⟩, q2⟩
  ·rw [if_neg (fun e => q2 ⟨e.1.symm, e.2.symm⟩), (h.val y q1).2, Bool.true_or]
   exact ⟨(h.val y q1).1, rfl⟩
  ·rw [e0, e1]
   have ek : (decide (x.f0 = (rowOf x).f0) && decide (x.f1 = (rowOf x).f1)) = true := by simp [rowOf]
   refine ⟨?_, by rw [ek, Bool.or_true]⟩
   rw [if_pos ⟨rfl, rfl⟩]
   rcases q2 with ⟨z, hz, ⟨f0, f1⟩, q3⟩ | ⟨q3, q4⟩
   ·rw [q3, (h.val z hz).1, f0, f1, Int.add_comm]; rfl
   ·have hno : keyed l (rowOf x).f0 (rowOf x).f1 = false := by
     cases hk : keyed l (rowOf x).f0 (rowOf x).f1 with
     | false => rfl
     | true =>
      obtain ⟨u, hu, g0, g1⟩ := h.all _ _ hk
      exact absurd ⟨g0, g1⟩ (q3 u hu)
    rw [q4, cnt_none hno, Int.zero_add, wrap_wf hx]; rfl
 ·rw [keyed_snoc] at hk
  obtain ⟨⟨z, hz, e⟩, hall⟩ := put_has (r := rowOf x) (S := S)
  rcases Bool.or_eq_true _ _ ▸ hk with hk | hk
  ·obtain ⟨r, hr2, g0, g1⟩ := h.all a b hk
   obtain ⟨u, hu, e2⟩ := hall r hr2
   exact ⟨u, hu, e2.1.trans g0, e2.2.trans g1⟩
  ·simp only [Bool.and_eq_true, decide_eq_true_eq] at hk
   exact ⟨z, hz, e.1.trans hk.1, e.2.trans hk.2⟩
theorem SumI.all_ (l : List It) (hl : ∀ x ∈ l, wfI x.f2) : ∀ (done : List It) (S : List Rw), SumI done S → SumI (done ++ l) (putAll S (l.map rowOf)) := by
 induction l with
 | nil => intro done S h; simpa [putAll] using h
 | cons x l ih =>
  intro done S h
  have h2 := ih (fun y hy => hl y (List.mem_cons_of_mem _ hy)) (done ++ [x]) _ (h.step (hl x List.mem_cons_self))
  simpa [putAll, List.append_assoc] using h2
theorem SumI.start : SumI [] [] := ⟨fun r hr => (by cases hr), List.Pairwise.nil, fun r hr => (by cases hr), fun a b h => (by cases h)⟩
theorem items_spec (l : List It) (hl : ∀ x ∈ l, wfI x.f2) : (items l).Pairwise (fun x y => x.f0 < y.f0 ∨ (x.f0 = y.f0 ∧ x.f1 < y.f1)) ∧ ∀ y, y ∈ items l ↔ (keyed l y.f0 y.f1 = true ∧ y.f2 = cnt l y.f0 y.f1 ∧ y.f2 ≠ 0) := by
 have h := SumI.all_ l hl [] [] SumI.start
 rw [List.nil_append] at h
 unfold items sum nonZero
 refine ⟨?_, fun y => ⟨fun hy => ?_, fun ⟨h1, h2, h3⟩ => ?_⟩⟩
 ·rw [List.pairwise_map]
  exact (h.asc.filter _).imp (fun h => h)
 ·obtain ⟨r, hr, rfl⟩ := List.mem_map.1 hy
  obtain ⟨hr1, hr2⟩ := List.mem_filter.1 hr
  exact ⟨(h.val r hr1).2, (h.val r hr1).1, by have h7 : ¬ r.f3 = 0 := (by simpa using hr2); exact h7⟩
 ·obtain ⟨r, hr, e0, e1⟩ := h.all _ _ h1
  have hv := (h.val r hr).1
  refine List.mem_map.2 ⟨r, List.mem_filter.2 ⟨hr, ?_⟩, ?_⟩
  ·rw [hv, e0, e1, ← h2]; simpa using h3
  ·exact It.ext' e0 e1 (by show r.f3 = _; rw [hv, e0, e1, h2])
theorem asc_unique {α : Type} {R : α → α → Prop} (hirr : ∀ x, ¬ R x x) (htr : ∀ x y z, R x y → R y z → R x z) : ∀ {l m : List α}, l.Pairwise R → m.Pairwise R → (∀ x, x ∈ l ↔ x ∈ m) → l = m
 | [], [], _, _, _ => rfl
 | [], y :: m, _, _, h => absurd ((h y).2 List.mem_cons_self) (by simp)
 | x :: l, [], _, _, h => absurd ((h x).1 List.mem_cons_self) (by simp)
 | x :: l, y :: m, hl, hm, h => by
  obtain ⟨hl1, hl2⟩ := List.pairwise_cons.1 hl
  obtain ⟨hm1, hm2⟩ := List.pairwise_cons.1 hm
  have hxy : x = y := by
   rcases List.mem_cons.1 ((h x).1 List.mem_cons_self) with e | e
   ·exact e
   ·rcases List.mem_cons.1 ((h y).2 List.mem_cons_self) with e2 | e2
    ·exact e2.symm
    ·exact absurd (htr _ _ _ (hl1 y e2) (hm1 x e)) (hirr _)
  subst hxy
  rw [asc_unique hirr htr hl2 hm2 (fun z => ⟨fun hz => ?_, fun hz => ?_⟩)]
  ·rcases List.mem_cons.1 ((h z).1 (List.mem_cons_of_mem _ hz)) with e | e
   ·subst e; exact absurd (hl1 z hz) (hirr _)
   ·exact e
  ·rcases List.mem_cons.1 ((h z).2 (List.mem_cons_of_mem _ hz)) with e | e
   ·subst e; exact absurd (hm1 z hz) (hirr _)
   ·exact e
end Go.Proofs.Ytkdendlgaaimbaa.X
namespace Go.Proofs.Ytkdendlgaaimbaa.X
open Go.RowKit
def sameR (x r : Rw) : Prop := x.f0 = r.f0 ∧ x.f1 = r.f1 ∧ x.f2.f0 = r.f2.f0 ∧ x.f2.f1 = r.f2.f1
instance (x r : Rw) : Decidable (sameR x r) := by unfold sameR; infer_instance
theorem sameR_refl (x : Rw) : sameR x x := ⟨rfl, rfl, rfl, rfl⟩
theorem sameR_symm {x y : Rw} (h : sameR x y) : sameR y x := ⟨h.1.symm, h.2.1.symm, h.2.2.1.symm, h.2.2.2.symm⟩
theorem sameR_trans {x y z : Rw} (h : sameR x y) (k : sameR y z) : sameR x z := ⟨h.1.trans k.1, h.2.1.trans k.2.1, h.2.2.1.trans k.2.2.1, h.2.2.2.trans k.2.2.2⟩
def stepR (r : Rw) (c : Int) (x : Rw) : Int := if sameR x r then wrap64 (c + x.f3) else c
def rcnt (l : List Rw) (r : Rw) : Int := l.foldl (stepR r) 0
def rkeyed (l : List Rw) (r : Rw) : Bool := l.any fun x => decide (sameR x r)
theorem rcnt_snoc (l : List Rw) (x r : Rw) : rcnt (l ++ [x]) r = stepR r (rcnt l r) x := by simp [rcnt]
theorem rkeyed_snoc (l : List Rw) (x r : Rw) : rkeyed (l ++ [x]) r = (rkeyed l r || decide (sameR x r)) := by simp [rkeyed]
theorem stepR_like {r s : Rw} (h : sameR r s) (c : Int) (x : Rw) : stepR r c x = stepR s c x := by
 unfold stepR
 by_cases e : sameR x r
 ·rw [if_pos e, if_pos (sameR_trans e h)]
 ·rw [if_neg e, if_neg (fun k => e (sameR_trans k (sameR_symm h)))]
theorem rcnt_like {r s : Rw} (h : sameR r s) (l : List Rw) : rcnt l r = rcnt l s := by
 unfold rcnt; congr 1; funext c x; exact stepR_like h c x
theorem rcnt_none {l : List Rw} {r : Rw} (h : rkeyed l r = false) : rcnt l r = 0 := by
 unfold rcnt
 have : ∀ c, l.foldl (stepR r) c = c := by
  induction l with
  | nil => intro c; rfl
  | cons x l ih =>
   intro c
   simp only [rkeyed, List.any_cons, Bool.or_eq_false_iff] at h
   rw [List.foldl_cons, ih h.2]
   unfold stepR
   rw [if_neg (of_decide_eq_false h.1)]
 exact this 0
def ltR (x y : Rw) : Prop := x.f0 < y.f0 ∨ (x.f0 = y.f0 ∧ (x.f1 < y.f1 ∨ (x.f1 = y.f1 ∧ (x.f2.f0 < y.f2.f0 ∨ (x.f2.f0 = y.f2.f0 ∧ x.f2.f1 < y.f2.f1)))))
theorem rowAhead_iff (x y : Rw) : rowAhead x y = true ↔ ltR x y := by
 unfold rowAhead ltR ahead
 by_cases h0 : x.f0 = y.f0
 ·rw [if_neg (by simpa using h0)]
  by_cases h1 : x.f1 = y.f1
  ·rw [if_neg (by simpa using h1)]; simp only [Bool.or_eq_true, Bool.and_eq_true, decide_eq_true_eq]; omega
  ·rw [if_pos h1, decide_eq_true_eq]; omega
 ·rw [if_pos h0, decide_eq_true_eq]; omega
theorem compR_pos (x r : Rw) : 0 < comp x r ↔ ltR r x := by
 unfold comp ltR; repeat' split
 all_goals omega
theorem compR_zero (x r : Rw) : comp x r = 0 ↔ sameR x r := by
 unfold comp sameR; repeat' split
 all_goals omega
theorem ltR_irr (x : Rw) : ¬ ltR x x := by unfold ltR; omega
theorem ltR_trans {x y z : Rw} (h : ltR x y) (k : ltR y z) : ltR x z := by unfold ltR at *; omega
theorem ltR_same {x y z : Rw} (h : sameR x y) (k : ltR x z) : ltR y z := by unfold ltR sameR at *; omega
theorem ltR_same2 {x y z : Rw} (h : sameR y z) (k : ltR x y) : ltR x z := by unfold ltR sameR at *; omega
theorem ltR_third {x y : Rw} (h : ¬ ltR y x) (k : ¬ sameR x y) : ltR x y := by unfold ltR sameR at *; omega
theorem ltR_ne {x y : Rw} (h : ltR x y) : ¬ sameR x y := by unfold ltR sameR at *; omega
theorem putR_mem {r : Rw} : ∀ {S : List Rw}, S.Pairwise ltR → ∀ y ∈ put r S,
  (y ∈ S ∧ ¬ sameR y r) ∨ (sameR y r ∧ ((∃ x ∈ S, sameR x r ∧ y.f3 = wrap64 (r.f3 + x.f3)) ∨ ((∀ x ∈ S, ¬ sameR x r) ∧ y.f3 = r.f3)))
 | [], _, y, hy => by
  rw [put, List.mem_singleton] at hy
  subst hy
  exact .inr ⟨sameR_refl _, .inr ⟨fun x hx => (by cases hx), rfl⟩⟩
 | x :: xs, ha, y, hy => by
  obtain ⟨ha1, ha2⟩ := List.pairwise_cons.1 ha
  rw [put] at hy
  by_cases h1 : 0 < comp x r
  ·rw [if_pos h1] at hy
   have h1' := (compR_pos x r).1 h1
   have hno : ∀ z ∈ x :: xs, ¬ sameR z r := fun z hz e => by
    rcases List.mem_cons.1 hz with rfl | hz
    ·exact ltR_ne h1' (sameR_symm e)
    ·exact ltR_ne (ltR_trans h1' (ha1 z hz)) (sameR_symm e)
   rcases List.mem_cons.1 hy with rfl | hy
   ·exact .inr ⟨sameR_refl _, .inr ⟨hno, rfl⟩⟩
   ·exact .inl ⟨hy, hno y hy⟩
  ·rw [if_neg h1] at hy
   by_cases h2 : comp x r = 0
   ·rw [if_pos h2] at hy
    have h2' := (compR_zero x r).1 h2
    rcases List.mem_cons.1 hy with rfl | hy
    ·exact .inr ⟨⟨rfl, rfl, rfl, rfl⟩, .inl ⟨x, List.mem_cons_self, h2', rfl⟩⟩
    ·exact .inl ⟨List.mem_cons_of_mem _ hy, fun e => ltR_ne (ltR_same h2' (ha1 y hy)) (sameR_symm e)⟩
   ·rw [if_neg h2] at hy
    rcases List.mem_cons.1 hy with rfl | hy
    ·exact .inl ⟨List.mem_cons_self, fun e => h2 ((compR_zero _ _).2 e)⟩
    ·rcases putR_mem ha2 y hy with ⟨q1, q2⟩ | ⟨q1, q2⟩
     ·exact .inl ⟨List.mem_cons_of_mem _ q1, q2⟩
     ·refine .inr ⟨q1, ?_⟩
      rcases q2 with ⟨z, hz, q3, q4⟩ | ⟨q3, q4⟩
      ·exact .inl ⟨z, List.mem_cons_of_mem _ hz, q3, q4⟩
      ·refine .inr ⟨fun z hz e => ?_, q4⟩
       rcases List.mem_cons.1 hz with rfl | hz
       ·exact h2 ((compR_zero _ _).2 e)
       ·exact q3 z hz e
theorem putR_asc {r : Rw} : ∀ {S : List Rw}, S.Pairwise ltR → (put r S).Pairwise ltR
 | [], _ => List.pairwise_singleton _ _
 | x :: xs, ha => by
  obtain ⟨ha1, ha2⟩ := List.pairwise_cons.1 ha
  rw [put]
  by_cases h1 : 0 < comp x r
  ·rw [if_pos h1]
   have h1' := (compR_pos x r).1 h1
   refine List.pairwise_cons.2 ⟨fun z hz => ?_, ha⟩
   rcases List.mem_cons.1 hz with rfl | hz
   ·exact h1'
   ·exact ltR_trans h1' (ha1 z hz)
  ·rw [if_neg h1]
   by_cases h2 : comp x r = 0
   ·rw [if_pos h2]
    exact List.pairwise_cons.2 ⟨fun z hz => ltR_same ((compR_zero x r).1 h2) (ha1 z hz), ha2⟩
   ·rw [if_neg h2]
    have hxr : ltR x r := ltR_third (mt (compR_pos x r).2 h1) (mt (compR_zero x r).2 h2)
    refine List.pairwise_cons.2 ⟨fun z hz => ?_, putR_asc ha2⟩
    rcases putR_mem ha2 z hz with ⟨q1, _⟩ | ⟨q1, _⟩
    ·exact ha1 z q1
    ·exact ltR_same2 (sameR_symm q1) hxr
theorem putR_has {r : Rw} : ∀ {S : List Rw}, (∃ z ∈ put r S, sameR z r) ∧ ∀ y ∈ S, ∃ z ∈ put r S, sameR z y
 | [] => ⟨⟨r, (by simp [put]), sameR_refl _⟩, fun y hy => (by cases hy)⟩
 | x :: xs => by
  obtain ⟨⟨z, hz, e⟩, hall⟩ := putR_has (r := r) (S := xs)
  rw [put]
  by_cases h1 : 0 < comp x r
  ·rw [if_pos h1]
   exact ⟨⟨r, List.mem_cons_self, sameR_refl _⟩, fun y hy => ⟨y, List.mem_cons_of_mem _ hy, sameR_refl _⟩⟩
  ·rw [if_neg h1]
   by_cases h2 : comp x r = 0
   ·rw [if_pos h2]
    have hs := (compR_zero x r).1 h2
    refine ⟨⟨_, List.mem_cons_self, ⟨rfl, rfl, rfl, rfl⟩⟩, fun y hy => ?_⟩
    rcases List.mem_cons.1 hy with rfl | hy
    ·exact ⟨_, List.mem_cons_self, sameR_trans ⟨rfl, rfl, rfl, rfl⟩ (sameR_symm hs)⟩
    ·exact ⟨y, List.mem_cons_of_mem _ hy, sameR_refl _⟩
   ·rw [if_neg h2]
    refine ⟨⟨z, List.mem_cons_of_mem _ hz, e⟩, fun y hy => ?_⟩
    rcases List.mem_cons.1 hy with rfl | hy
    ·exact ⟨_, List.mem_cons_self, sameR_refl _⟩
    ·obtain ⟨u, hu, e2⟩ := hall y hy
     exact ⟨u, List.mem_cons_of_mem _ hu, e2⟩
structure SumR (l : List Rw) (S : List Rw) : Prop where
 asc : S.Pairwise ltR
 val : ∀ r ∈ S, r.f3 = rcnt l r ∧ rkeyed l r = true
 all : ∀ k, rkeyed l k = true → ∃ r ∈ S, sameR r k
theorem SumR.step {l : List Rw} {S : List Rw} (h : SumR l S) {x : Rw} (hx : wfI x.f3) : SumR (l ++ [x]) (put x S) := by
 refine ⟨putR_asc h.asc, fun y hy => ?_, fun k hk => ?_⟩
 ·rw [rcnt_snoc, rkeyed_snoc, stepR]
  rcases putR_mem h.asc y hy with ⟨q1, q2⟩ | ⟨q1, q2⟩
  ·rw [if_neg (fun e => q2 (sameR_symm e)), (h.val y q1).2, Bool.true_or]
   exact ⟨(h.val y q1).1, rfl⟩
  ·rw [if_pos (sameR_symm q1), decide_eq_true (sameR_symm q1), Bool.or_true]
   refine ⟨?_, rfl⟩
   rw [rcnt_like q1]
   rcases q2 with ⟨z, hz, q3, q4⟩ | ⟨q3, q4⟩
   ·rw [q4, (h.val z hz).1, rcnt_like q3, Int.add_comm]
   ·have hno : rkeyed l x = false := by
     cases hk : rkeyed l x with
     | false => rfl
     | true =>
      obtain ⟨u, hu, g⟩ := h.all _ hk
      exact absurd g (q3 u hu)
    rw [q4, rcnt_none hno, Int.zero_add, wrap_wf hx]
 ·rw [rkeyed_snoc] at hk
  obtain ⟨⟨z, hz, e⟩, hall⟩ := putR_has (r := x) (S := S)
  rcases Bool.or_eq_true _ _ ▸ hk with hk | hk
  ·obtain ⟨r, hr2, g⟩ := h.all k hk
   obtain ⟨u, hu, e2⟩ := hall r hr2
   exact ⟨u, hu, sameR_trans e2 g⟩
  ·exact ⟨z, hz, sameR_trans e (of_decide_eq_true hk)⟩
theorem SumR.all_ (l : List Rw) (hl : ∀ x ∈ l, wfI x.f3) : ∀ (done : List Rw) (S : List Rw), SumR done S → SumR (done ++ l) (putAll S l) := by
 induction l with
 | nil => intro done S h; simpa [putAll] using h
 | cons x l ih =>
  intro done S h
  have h2 := ih (fun y hy => hl y (List.mem_cons_of_mem _ hy)) (done ++ [x]) _ (h.step (hl x List.mem_cons_self))
  simpa [putAll, List.append_assoc] using h2
theorem SumR.start : SumR [] [] := ⟨List.Pairwise.nil, fun r hr => (by cases hr), fun a h => (by cases h)⟩
theorem sum_spec (l : List Rw) (hl : ∀ x ∈ l, wfI x.f3) : (sum l).Pairwise ltR ∧ ∀ y, y ∈ sum l ↔ (rkeyed l y = true ∧ y.f3 = rcnt l y ∧ y.f3 ≠ 0) := by
 have h := SumR.all_ l hl [] [] SumR.start
 rw [List.nil_append] at h
 unfold sum nonZero
 refine ⟨h.asc.filter _, fun y => ⟨fun hy => ?_, fun ⟨h1, h2, h3⟩ => ?_⟩⟩
 ·obtain ⟨hr1, hr2⟩ := List.mem_filter.1 hy
  exact ⟨(h.val y hr1).2, (h.val y hr1).1, by have h7 : ¬ y.f3 = 0 := (by simpa using hr2); exact h7⟩
 ·obtain ⟨r, hr, e⟩ := h.all _ h1
  have hv := (h.val r hr).1
  have : r = y := Rw.ext' e.1 e.2.1 (Tm.ext' e.2.2.1 e.2.2.2) (by rw [hv, h2, rcnt_like e])
  subst this
  exact List.mem_filter.2 ⟨hr, by simpa using h3⟩
end Go.Proofs.Ytkdendlgaaimbaa.X
namespace Go.Proofs.Ytkdendlgaaimbaa.X
open Go.RowKit
set_option linter.unusedVariables false
end Go.Proofs.Ytkdendlgaaimbaa.X
namespace Go.Proofs.Ytkdendlgaaimbaa.X
open Go.RowKit
set_option linter.unusedVariables false
set_option linter.unusedSimpArgs false
section
variable {α β : Type}
end
abbrev Wt := Int → Int → Tm → Int
def sh (φ : Wt) (r : Rw) : Int := r.f3 * φ r.f0 r.f1 r.f2
end Go.Proofs.Ytkdendlgaaimbaa.X
namespace Go.Proofs.Ytkdendlgaaimbaa.X
open Go.RowKit
set_option linter.unusedVariables false
set_option linter.unusedSimpArgs false
end Go.Proofs.Ytkdendlgaaimbaa.X
