/- Plain lemmas: times, rows, items, sums. Conditions: none. -/
import Derived.RowKit
/-! ## Pure -/
namespace Go.Proofs.YtffibnbnabppjaaDoor.X
open Go.RowKit

/-- a time -/
structure Tm where
  f0 : Int
  f1 : Int
/-- a row: key, value, time, difference -/
structure Rw where
  f0 : Int
  f1 : Int
  f2 : Tm
  f3 : Int
/-- an item: key, value, count -/
structure It where
  f0 : Int
  f1 : Int
  f2 : Int
/-- a plan: kind, number, parts -/
structure Pl where
  f0 : Int
  f1 : Int
  f2 : List Pl

theorem Tm.ext' {s t : Tm} (h1 : s.f0 = t.f0) (h2 : s.f1 = t.f1) : s = t := by cases s; cases t; simp_all
theorem Rw.ext' {s t : Rw} (h1 : s.f0 = t.f0) (h2 : s.f1 = t.f1) (h3 : s.f2 = t.f2) (h4 : s.f3 = t.f3) : s = t := by cases s; cases t; simp_all
theorem It.ext' {s t : It} (h1 : s.f0 = t.f0) (h2 : s.f1 = t.f1) (h4 : s.f2 = t.f2) : s = t := by cases s; cases t; simp_all
instance : DecidableEq Tm := fun s t => if h : s.f0 = t.f0 ∧ s.f1 = t.f1 then isTrue (Tm.ext' h.1 h.2) else isFalse (fun e => h ⟨by rw [e], by rw [e]⟩)
instance : DecidableEq Rw := fun s t => if h : s.f0 = t.f0 ∧ s.f1 = t.f1 ∧ s.f2 = t.f2 ∧ s.f3 = t.f3 then isTrue (Rw.ext' h.1 h.2.1 h.2.2.1 h.2.2.2) else isFalse (fun e => h ⟨by rw [e], by rw [e], by rw [e], by rw [e]⟩)
instance : DecidableEq It := fun s t => if h : s.f0 = t.f0 ∧ s.f1 = t.f1 ∧ s.f2 = t.f2 then isTrue (It.ext' h.1 h.2.1 h.2.2) else isFalse (fun e => h ⟨by rw [e], by rw [e], by rw [e]⟩)
instance : Inhabited Tm := ⟨⟨0, 0⟩⟩
instance : Inhabited Rw := ⟨⟨0, 0, ⟨0, 0⟩, 0⟩⟩
instance : Inhabited It := ⟨⟨0, 0, 0⟩⟩

/-! times -/
def tOk (t : Tm) : Bool := decide (0 ≤ t.f0) && decide (t.f0 ≤ 7) && decide (0 ≤ t.f1) && decide (t.f1 ≤ 7)
def below (s t : Tm) : Bool := decide (s.f0 ≤ t.f0) && decide (s.f1 ≤ t.f1)
def tLess (s t : Tm) : Bool := tOk s && tOk t && below s t
def tmax (x y : Int) : Int := if x < y then y else x
def tmin (x y : Int) : Int := if y < x then y else x
def tJoin (s t : Tm) : Tm := if tOk s && tOk t then ⟨tmax s.f0 t.f0, tmax s.f1 t.f1⟩ else ⟨0, 0⟩
def tMeet (s t : Tm) : Tm := if tOk s && tOk t then ⟨tmin s.f0 t.f0, tmin s.f1 t.f1⟩ else ⟨0, 0⟩
/-- two times of a front, side by side -/
def step2 (p t : Tm) : Bool := decide (p.f0 < t.f0) && decide (t.f1 < p.f1)
def frontGo (p : Tm) : List Tm → Bool
  | [] => true
  | t :: f => tOk t && step2 p t && frontGo t f
def frontOk : List Tm → Bool
  | [] => true
  | t :: f => tOk t && frontGo t f
def beyond (f : List Tm) (t : Tm) : Bool := f.any fun s => below s t
def covers (f : List Tm) (t : Tm) : Bool := frontOk f && f.any fun s => tLess s t
def moveGo (t : Tm) (o : Tm) : List Tm → Tm
  | [] => o
  | s :: f => moveGo t (tMeet o (tJoin s t)) f
/-- impl.moved: its fold goes over all of f -/
def moved (f : List Tm) (t : Tm) : Tm := match f with | [] => t | s :: r => moveGo t (tJoin s t) (s :: r)
def frontMove (f : List Tm) (t : Tm) : Tm := if frontOk f && tOk t then (match f with | [] => t | s :: r => moveGo t (tJoin s t) r) else ⟨0, 0⟩
def allOk (l : List Tm) : Bool := l.all tOk

/-! rows -/
def rowOk (r : Rw) : Bool := decide (0 ≤ r.f0) && decide (r.f0 < 4) && decide (0 ≤ r.f1) && decide (r.f1 < 100) && tOk r.f2 && decide (-99999 ≤ r.f3) && decide (r.f3 ≤ 99999)
def rowsOk (l : List Rw) : Bool := l.all rowOk && decide (l.length ≤ 400)
/-- spec.l2Comp -/
def comp (a b : Rw) : Int := if a.f0 < b.f0 then -1 else if a.f0 > b.f0 then 1 else if a.f1 < b.f1 then -1 else if a.f1 > b.f1 then 1 else if a.f2.f0 < b.f2.f0 then -1 else if a.f2.f0 > b.f2.f0 then 1 else if a.f2.f1 < b.f2.f1 then -1 else if a.f2.f1 > b.f2.f1 then 1 else 0
def ahead (s t : Tm) : Bool := decide (s.f0 < t.f0) || (decide (s.f0 = t.f0) && decide (s.f1 < t.f1))
def rowAhead (x y : Rw) : Bool := if x.f0 ≠ y.f0 then decide (x.f0 < y.f0) else if x.f1 ≠ y.f1 then decide (x.f1 < y.f1) else ahead x.f2 y.f2
def ascGo (p : Rw) : List Rw → Bool
  | [] => true
  | r :: l => decide (r.f3 ≠ 0) && rowAhead p r && ascGo r l
/-- no row of nothing; each ahead of the next -/
def asc : List Rw → Bool
  | [] => true
  | r :: l => decide (r.f3 ≠ 0) && ascGo r l
def batchOk (l : List Rw) : Bool := asc l && rowsOk l
/-- spec.l2Put -/
def put (r : Rw) : List Rw → List Rw
  | [] => [r]
  | x :: xs => if 0 < comp x r then r :: x :: xs else if comp x r = 0 then { r with f3 := wrap64 (r.f3 + x.f3) } :: xs else x :: put r xs
def putAll (s : List Rw) : List Rw → List Rw
  | [] => s
  | r :: l => putAll (put r s) l
def nonZero (l : List Rw) : List Rw := l.filter fun r => decide (r.f3 ≠ 0)
/-- spec.l2Sum: rows as a batch -/
def sum (l : List Rw) : List Rw := nonZero (putAll [] l)
def fit (l : List Rw) : List Rw := if batchOk l then l else []
def batchOf (l : List Rw) : List Rw := if rowsOk l then fit (sum l) else []
def batchBoth (a b : List Rw) : List Rw := if rowsOk a && rowsOk b then fit (sum (a ++ b)) else []
def neg (r : Rw) : Rw := { r with f3 := wrap64 (-r.f3) }
def batchLess (a : List Rw) : List Rw := if rowsOk a then fit (sum (a.map neg)) else []
def mv (f : List Tm) (r : Rw) : Rw := { r with f2 := moved f r.f2 }
def batchMove (a : List Rw) (f : List Tm) : List Rw := if rowsOk a && frontOk f then fit (sum (a.map (mv f))) else []

/-! items -/
def rowOf (x : It) : Rw := ⟨x.f0, x.f1, ⟨0, 0⟩, x.f2⟩
def itemOf (r : Rw) : It := ⟨r.f0, r.f1, r.f3⟩
/-- spec.l2Items, impl.gathered -/
def items (l : List It) : List It := (sum (l.map rowOf)).map itemOf
def presentOf (l : List Rw) (t : Tm) : List It := (l.filter fun r => below r.f2 t).map itemOf
def present (l : List Rw) (t : Tm) : List It := items (presentOf l t)
def batchAt (l : List Rw) (t : Tm) : List It := if rowsOk l && tOk t then present l t else []

/-! spines -/
def many : List (List Rw) → Nat
  | [] => 0
  | l :: ls => l.length + many ls
def spineOk (ls : List (List Rw)) (f : List Tm) : Bool := ls.all batchOk && decide (ls.length ≤ 6) && decide (many ls ≤ 400) && frontOk f

end Go.Proofs.YtffibnbnabppjaaDoor.X

/-! ## PTimes -/
namespace Go.Proofs.YtffibnbnabppjaaDoor.X
open Go.RowKit

theorem take1 {α : Type} {l : List α} {k : Nat} {x : α} (hx : l[k]? = some x) : l.take (k + 1) = l.take k ++ [x] := by
  obtain ⟨hlt, rfl⟩ := List.getElem?_eq_some_iff.1 hx
  exact List.take_succ_eq_append_getElem hlt
theorem frontGo_snoc (p : Tm) : ∀ (l : List Tm) (y x : Tm), frontGo p (l ++ [y]) = true → frontGo p (l ++ [y, x]) = (tOk x && step2 y x)
  | [], y, x, h => by simp [frontGo] at h ⊢; simp [h]
  | t :: l, y, x, h => by
    simp only [List.cons_append, frontGo, Bool.and_eq_true] at h ⊢
    rw [frontGo_snoc t l y x h.2, h.1.1, h.1.2]; rfl
theorem frontOk_snoc : ∀ (l : List Tm) (y x : Tm), frontOk (l ++ [y]) = true → frontOk (l ++ [y, x]) = (tOk x && step2 y x)
  | [], y, x, h => by simp [frontOk, frontGo] at h ⊢; simp [h]
  | t :: l, y, x, h => by
    simp only [List.cons_append, frontOk, Bool.and_eq_true] at h ⊢
    rw [frontGo_snoc t l y x h.2, h.1]; rfl
theorem front_next {l : List Tm} {j : Nat} {x y : Tm} (h : frontOk (l.take (j + 1)) = true) (hy : l[j]? = some y) (hx : l[j + 1]? = some x) : frontOk (l.take (j + 1 + 1)) = (tOk x && step2 y x) := by
  rw [take1 hx, take1 hy, List.append_assoc]
  rw [take1 hy] at h
  exact frontOk_snoc _ y x h
theorem front_first {l : List Tm} {x : Tm} {k : Nat} (hx : l[k]? = some x) (hk : ¬ 0 < k) : frontOk (l.take (k + 1)) = tOk x := by
  obtain rfl : k = 0 := by omega
  rw [show (0 + 1 : Nat) = 0 + 1 from rfl, take1 hx]; simp [frontOk, frontGo]
theorem front_first0 {l : List Tm} {x : Tm} (hx : l[0]? = some x) : frontOk (l.take 1) = tOk x := by
  rw [show (1 : Nat) = 0 + 1 from rfl, take1 hx]; simp [frontOk, frontGo]
theorem frontGo_take (p : Tm) : ∀ (l : List Tm) (k : Nat), frontGo p l = true → frontGo p (l.take k) = true
  | _, 0, _ => by simp [frontGo]
  | [], k + 1, _ => by simp [frontGo]
  | t :: l, k + 1, h => by
    simp only [List.take_succ_cons, frontGo, Bool.and_eq_true] at h ⊢
    exact ⟨h.1, frontGo_take t l k h.2⟩
theorem frontOk_take : ∀ (l : List Tm) (k : Nat), frontOk l = true → frontOk (l.take k) = true
  | _, 0, _ => by simp [frontOk]
  | [], k + 1, _ => by simp [frontOk]
  | t :: l, k + 1, h => by
    simp only [List.take_succ_cons, frontOk, Bool.and_eq_true] at h ⊢
    exact ⟨h.1, frontGo_take t l k h.2⟩
theorem front_false {l : List Tm} (k : Nat) (h : frontOk (l.take k) = false) : frontOk l = false := by
  cases e : frontOk l
  · rfl
  · rw [frontOk_take l k e] at h; cases h
theorem front_done {l : List Tm} {k : Nat} (h : frontOk (l.take k) = true) (hk : ¬ k < l.length) : frontOk l = true := by rwa [List.take_of_length_le (by omega)] at h

/-! rows that ascend -/
theorem ascGo_snoc (p : Rw) : ∀ (l : List Rw) (y x : Rw), ascGo p (l ++ [y]) = true → ascGo p (l ++ [y, x]) = (decide (x.f3 ≠ 0) && rowAhead y x)
  | [], y, x, h => by simp [ascGo] at h ⊢; simp [h]
  | t :: l, y, x, h => by
    simp only [List.cons_append, ascGo, Bool.and_eq_true] at h ⊢
    rw [ascGo_snoc t l y x h.2, h.1.1, h.1.2]; rfl
theorem asc_snoc : ∀ (l : List Rw) (y x : Rw), asc (l ++ [y]) = true → asc (l ++ [y, x]) = (decide (x.f3 ≠ 0) && rowAhead y x)
  | [], y, x, h => by simp [asc, ascGo] at h ⊢; simp [h]
  | t :: l, y, x, h => by
    simp only [List.cons_append, asc, Bool.and_eq_true] at h ⊢
    rw [ascGo_snoc t l y x h.2, h.1]; rfl
theorem asc_next {l : List Rw} {j : Nat} {x y : Rw} (h : asc (l.take (j + 1)) = true) (hy : l[j]? = some y) (hx : l[j + 1]? = some x) : asc (l.take (j + 1 + 1)) = (decide (x.f3 ≠ 0) && rowAhead y x) := by
  rw [take1 hx, take1 hy, List.append_assoc]
  rw [take1 hy] at h
  exact asc_snoc _ y x h
theorem asc_first {l : List Rw} {x : Rw} {k : Nat} (hx : l[k]? = some x) (hk : ¬ 0 < k) : asc (l.take (k + 1)) = decide (x.f3 ≠ 0) := by
  obtain rfl : k = 0 := by omega
  rw [take1 hx]; simp [asc, ascGo]
theorem ascGo_take (p : Rw) : ∀ (l : List Rw) (k : Nat), ascGo p l = true → ascGo p (l.take k) = true
  | _, 0, _ => by simp [ascGo]
  | [], k + 1, _ => by simp [ascGo]
  | t :: l, k + 1, h => by
    simp only [List.take_succ_cons, ascGo, Bool.and_eq_true] at h ⊢
    exact ⟨h.1, ascGo_take t l k h.2⟩
theorem asc_take : ∀ (l : List Rw) (k : Nat), asc l = true → asc (l.take k) = true
  | _, 0, _ => by simp [asc]
  | [], k + 1, _ => by simp [asc]
  | t :: l, k + 1, h => by
    simp only [List.take_succ_cons, asc, Bool.and_eq_true] at h ⊢
    exact ⟨h.1, ascGo_take t l k h.2⟩
theorem asc_false {l : List Rw} (k : Nat) (h : asc (l.take k) = false) : asc l = false := by
  cases e : asc l
  · rfl
  · rw [asc_take l k e] at h; cases h
theorem asc_done {l : List Rw} {k : Nat} (h : asc (l.take k) = true) (hk : ¬ k < l.length) : asc l = true := by rwa [List.take_of_length_le (by omega)] at h
def lexi : List Int → List Int → Int
  | x :: xs, y :: ys => if x < y then -1 else if x > y then 1 else lexi xs ys
  | _, _ => 0
theorem comp_lexi (a b : Rw) : comp a b = lexi [a.f0, a.f1, a.f2.f0, a.f2.f1] [b.f0, b.f1, b.f2.f0, b.f2.f1] := rfl
theorem comp_ge (x y : Rw) : (0 ≤ comp x y) ↔ rowAhead x y = false := by
  unfold comp rowAhead ahead
  by_cases h1 : x.f0 = y.f0 <;> by_cases h2 : x.f1 = y.f1 <;> simp [h1, h2] <;> split <;> (try split) <;> (try split) <;> (try split) <;> (try split) <;> (try split) <;> simp_all <;> omega
theorem batchOk_len {l : List Rw} (h : batchOk l = true) : l.length ≤ 400 := by simp [batchOk, rowsOk] at h; omega
theorem many_take {ls : List (List Rw)} {k : Nat} {x : List Rw} (hx : ls[k]? = some x) : many (ls.take (k + 1)) = many (ls.take k) + x.length := by
  rw [take1 hx]
  have : ∀ (a : List (List Rw)), many (a ++ [x]) = many a + x.length := by
    intro a
    induction a with
    | nil => simp [many]
    | cons y a ih => simp only [List.cons_append, many, ih]; omega
  exact this _
theorem many_done {ls : List (List Rw)} {k : Nat} (hk : ¬ k < ls.length) : many (ls.take k) = many ls := by rw [List.take_of_length_le (by omega)]
end Go.Proofs.YtffibnbnabppjaaDoor.X

/-! ## PGath -/
namespace Go.Proofs.YtffibnbnabppjaaDoor.X
open Go.RowKit

def wfI (a : Int) : Prop := (Lit.int .i64 a).wf = true
def step3 (a b c : Int) (x : It) : Int := if x.f0 = a ∧ x.f1 = b then wrap64 (c + x.f2) else c
def cnt (l : List It) (a b : Int) : Int := l.foldl (step3 a b) 0
def keyed (l : List It) (a b : Int) : Bool := l.any fun x => decide (x.f0 = a) && decide (x.f1 = b)
theorem cnt_snoc (l : List It) (x : It) (a b : Int) : cnt (l ++ [x]) a b = step3 a b (cnt l a b) x := by simp [cnt]
theorem keyed_snoc (l : List It) (x : It) (a b : Int) : keyed (l ++ [x]) a b = (keyed l a b || (decide (x.f0 = a) && decide (x.f1 = b))) := by simp [keyed]
theorem wfI_iff (a : Int) : wfI a ↔ -9223372036854775808 ≤ a ∧ a ≤ 9223372036854775807 := by
  have h1 : IntKind.i64.min = -9223372036854775808 := by decide
  have h2 : IntKind.i64.max = 9223372036854775807 := by decide
  unfold wfI; simp [Lit.wf, h1, h2]
theorem wrap_wf {a : Int} (h : wfI a) : wrap64 a = a := by rw [wfI_iff] at h; unfold wrap64; omega
theorem cnt_none {l : List It} {a b : Int} (h : keyed l a b = false) : cnt l a b = 0 := by
  unfold cnt
  have : ∀ c, l.foldl (step3 a b) c = c := by
    induction l with
    | nil => intro c; rfl
    | cons x l ih =>
      intro c
      simp only [keyed, List.any_cons, Bool.or_eq_false_iff] at h
      rw [List.foldl_cons, ih h.2]
      unfold step3
      rw [if_neg (fun e => by have := h.1; rw [decide_eq_true e.1, decide_eq_true e.2] at this; cases this)]
  exact this 0
def fitIt (x : It) : Bool := (Lit.int .i64 x.f0).wf && (Lit.int .i64 x.f1).wf && (Lit.int .i64 x.f2).wf
theorem fit_all {l : List It} (h : l.all fitIt = true) : ∀ x ∈ l, wfI x.f0 ∧ wfI x.f1 ∧ wfI x.f2 := fun x hx => by
  have := List.all_eq_true.1 h x hx
  simp only [fitIt, Bool.and_eq_true] at this
  exact ⟨this.1.1, this.1.2, this.2⟩
/-- rows without a time, by key and value -/
def ltK (x y : Rw) : Prop := x.f0 < y.f0 ∨ (x.f0 = y.f0 ∧ x.f1 < y.f1)
def plainR (r : Rw) : Prop := r.f2 = ⟨0, 0⟩
theorem comp_pos {x r : Rw} (hx : plainR x) (hr : plainR r) : 0 < comp x r ↔ ltK r x := by
  unfold plainR at hx hr; unfold comp ltK; simp only [hx, hr]; repeat' split
  all_goals omega
theorem comp_zero {x r : Rw} (hx : plainR x) (hr : plainR r) : comp x r = 0 ↔ x.f0 = r.f0 ∧ x.f1 = r.f1 := by
  unfold plainR at hx hr; unfold comp; simp only [hx, hr]; repeat' split
  all_goals omega
theorem comp_zero1 {x r : Rw} (h2 : comp x r = 0) : x.f0 = r.f0 ∧ x.f1 = r.f1 := by
  unfold comp at h2; repeat' split at h2
  all_goals omega
def same (x r : Rw) : Prop := x.f0 = r.f0 ∧ x.f1 = r.f1
theorem put_mem {r : Rw} (hr : plainR r) : ∀ {S : List Rw}, (∀ x ∈ S, plainR x) → S.Pairwise ltK → ∀ y ∈ put r S,
    plainR y ∧ ((y ∈ S ∧ ¬ same y r) ∨ (same y r ∧ ((∃ x ∈ S, same x r ∧ y.f3 = wrap64 (r.f3 + x.f3)) ∨ ((∀ x ∈ S, ¬ same x r) ∧ y.f3 = r.f3))))
  | [], _, _, y, hy => by
    rw [put, List.mem_singleton] at hy
    subst hy
    exact ⟨hr, .inr ⟨⟨rfl, rfl⟩, .inr ⟨fun x hx => (by cases hx), rfl⟩⟩⟩
  | x :: xs, hp, ha, y, hy => by
    have hx : plainR x := hp x List.mem_cons_self
    have hpx : ∀ z ∈ xs, plainR z := fun z hz => hp z (List.mem_cons_of_mem _ hz)
    obtain ⟨ha1, ha2⟩ := List.pairwise_cons.1 ha
    rw [put] at hy
    by_cases h1 : 0 < comp x r
    · rw [if_pos h1] at hy
      have h1' := (comp_pos hx hr).1 h1
      have hno : ∀ z ∈ x :: xs, ¬ same z r := fun z hz e => by
        rcases List.mem_cons.1 hz with rfl | hz
        · unfold ltK at h1'; unfold same at e; omega
        · have := ha1 z hz; unfold ltK at h1' this; unfold same at e; omega
      rcases List.mem_cons.1 hy with rfl | hy
      · exact ⟨hr, .inr ⟨⟨rfl, rfl⟩, .inr ⟨hno, rfl⟩⟩⟩
      · exact ⟨hp y hy, .inl ⟨hy, hno y hy⟩⟩
    · rw [if_neg h1] at hy
      by_cases h2 : comp x r = 0
      · rw [if_pos h2] at hy
        have h2' := (comp_zero hx hr).1 h2
        rcases List.mem_cons.1 hy with rfl | hy
        · exact ⟨hr, .inr ⟨⟨rfl, rfl⟩, .inl ⟨x, List.mem_cons_self, h2', rfl⟩⟩⟩
        · refine ⟨hpx y hy, .inl ⟨List.mem_cons_of_mem _ hy, fun e => ?_⟩⟩
          have := ha1 y hy; unfold ltK at this; unfold same at e; omega
      · rw [if_neg h2] at hy
        rcases List.mem_cons.1 hy with rfl | hy
        · exact ⟨hx, .inl ⟨List.mem_cons_self, fun e => h2 ((comp_zero hx hr).2 e)⟩⟩
        · obtain ⟨hpy, hq⟩ := put_mem hr hpx ha2 y hy
          refine ⟨hpy, ?_⟩
          rcases hq with ⟨q1, q2⟩ | ⟨q1, q2⟩
          · exact .inl ⟨List.mem_cons_of_mem _ q1, q2⟩
          · refine .inr ⟨q1, ?_⟩
            rcases q2 with ⟨z, hz, q3, q4⟩ | ⟨q3, q4⟩
            · exact .inl ⟨z, List.mem_cons_of_mem _ hz, q3, q4⟩
            · refine .inr ⟨fun z hz e => ?_, q4⟩
              rcases List.mem_cons.1 hz with rfl | hz
              · exact h2 ((comp_zero hx hr).2 e)
              · exact q3 z hz e
theorem lt_same {x r z : Rw} {c : Int} (h : x.f0 = r.f0 ∧ x.f1 = r.f1) (h5 : ltK x z) : ltK { r with f3 := c } z := by unfold ltK at h5 ⊢; simp only; omega
theorem lt_third {x r : Rw} (n1 : ¬ ltK r x) (n2 : ¬ (x.f0 = r.f0 ∧ x.f1 = r.f1)) : ltK x r := by unfold ltK at n1 ⊢; omega
theorem lt_like {x r z : Rw} (q : same z r) (h : ltK x r) : ltK x z := by unfold ltK same at *; omega
theorem put_asc {r : Rw} (hr : plainR r) : ∀ {S : List Rw}, (∀ x ∈ S, plainR x) → S.Pairwise ltK → (put r S).Pairwise ltK
  | [], _, _ => List.pairwise_singleton _ _
  | x :: xs, hp, ha => by
    have hx : plainR x := hp x List.mem_cons_self
    have hpx : ∀ z ∈ xs, plainR z := fun z hz => hp z (List.mem_cons_of_mem _ hz)
    obtain ⟨ha1, ha2⟩ := List.pairwise_cons.1 ha
    rw [put]
    by_cases h1 : 0 < comp x r
    · rw [if_pos h1]
      have h1' := (comp_pos hx hr).1 h1
      refine List.pairwise_cons.2 ⟨fun z hz => ?_, ha⟩
      rcases List.mem_cons.1 hz with rfl | hz
      · exact h1'
      · have := ha1 z hz; unfold ltK at this h1' ⊢; clear h1 hr hx hpx ha1 ha2 ha hp; omega
    · rw [if_neg h1]
      by_cases h2 : comp x r = 0
      · rw [if_pos h2]
        have h2' := (comp_zero hx hr).1 h2
        refine List.pairwise_cons.2 ⟨fun z hz => ?_, ha2⟩
        have h5 := ha1 z hz
        exact lt_same h2' h5
      · rw [if_neg h2]
        refine List.pairwise_cons.2 ⟨fun z hz => ?_, put_asc hr hpx ha2⟩
        have hxr : ltK x r := by
          have n1 := mt (comp_pos hx hr).2 h1
          have n2 := mt (comp_zero hx hr).2 h2
          exact lt_third n1 n2
        obtain ⟨_, hq⟩ := put_mem hr hpx ha2 z hz
        rcases hq with ⟨q1, _⟩ | ⟨q1, _⟩
        · exact ha1 z q1
        · exact lt_like q1 hxr
theorem put_has {r : Rw} : ∀ {S : List Rw}, (∃ z ∈ put r S, same z r) ∧ ∀ y ∈ S, ∃ z ∈ put r S, same z y
  | [] => ⟨⟨r, (by simp [put]), rfl, rfl⟩, fun y hy => (by cases hy)⟩
  | x :: xs => by
    obtain ⟨⟨z, hz, e⟩, hall⟩ := put_has (r := r) (S := xs)
    rw [put]
    by_cases h1 : 0 < comp x r
    · rw [if_pos h1]
      exact ⟨⟨r, List.mem_cons_self, rfl, rfl⟩, fun y hy => ⟨y, List.mem_cons_of_mem _ hy, rfl, rfl⟩⟩
    · rw [if_neg h1]
      by_cases h2 : comp x r = 0
      · rw [if_pos h2]
        have hs := comp_zero1 h2
        refine ⟨⟨_, List.mem_cons_self, rfl, rfl⟩, fun y hy => ?_⟩
        rcases List.mem_cons.1 hy with rfl | hy
        · exact ⟨_, List.mem_cons_self, hs.1.symm, hs.2.symm⟩
        · exact ⟨y, List.mem_cons_of_mem _ hy, rfl, rfl⟩
      · rw [if_neg h2]
        refine ⟨⟨z, List.mem_cons_of_mem _ hz, e⟩, fun y hy => ?_⟩
        rcases List.mem_cons.1 hy with rfl | hy
        · exact ⟨_, List.mem_cons_self, rfl, rfl⟩
        · obtain ⟨u, hu, e2⟩ := hall y hy
          exact ⟨u, List.mem_cons_of_mem _ hu, e2⟩
structure SumI (l : List It) (S : List Rw) : Prop where
  plain : ∀ r ∈ S, plainR r
  asc : S.Pairwise ltK
  val : ∀ r ∈ S, r.f3 = cnt l r.f0 r.f1 ∧ keyed l r.f0 r.f1 = true
  all : ∀ a b, keyed l a b = true → ∃ r ∈ S, r.f0 = a ∧ r.f1 = b
theorem SumI.step {l : List It} {S : List Rw} (h : SumI l S) {x : It} (hx : wfI x.f2) : SumI (l ++ [x]) (put (rowOf x) S) := by
  have hr : plainR (rowOf x) := rfl
  refine ⟨fun y hy => (put_mem hr h.plain h.asc y hy).1, put_asc hr h.plain h.asc, fun y hy => ?_, fun a b hk => ?_⟩
  · obtain ⟨_, hq⟩ := put_mem hr h.plain h.asc y hy
    rw [cnt_snoc, keyed_snoc, step3]
    rcases hq with ⟨q1, q2⟩ | ⟨⟨e0, e1⟩, q2⟩
    · rw [if_neg (fun e => q2 ⟨e.1.symm, e.2.symm⟩), (h.val y q1).2, Bool.true_or]
      exact ⟨(h.val y q1).1, rfl⟩
    · rw [e0, e1]
      have ek : (decide (x.f0 = (rowOf x).f0) && decide (x.f1 = (rowOf x).f1)) = true := by simp [rowOf]
      refine ⟨?_, by rw [ek, Bool.or_true]⟩
      rw [if_pos ⟨rfl, rfl⟩]
      rcases q2 with ⟨z, hz, ⟨f0, f1⟩, q3⟩ | ⟨q3, q4⟩
      · rw [q3, (h.val z hz).1, f0, f1, Int.add_comm]; rfl
      · have hno : keyed l (rowOf x).f0 (rowOf x).f1 = false := by
          cases hk : keyed l (rowOf x).f0 (rowOf x).f1 with
          | false => rfl
          | true =>
            obtain ⟨u, hu, g0, g1⟩ := h.all _ _ hk
            exact absurd ⟨g0, g1⟩ (q3 u hu)
        rw [q4, cnt_none hno, Int.zero_add, wrap_wf hx]; rfl
  · rw [keyed_snoc] at hk
    obtain ⟨⟨z, hz, e⟩, hall⟩ := put_has (r := rowOf x) (S := S)
    rcases Bool.or_eq_true _ _ ▸ hk with hk | hk
    · obtain ⟨r, hr2, g0, g1⟩ := h.all a b hk
      obtain ⟨u, hu, e2⟩ := hall r hr2
      exact ⟨u, hu, e2.1.trans g0, e2.2.trans g1⟩
    · simp only [Bool.and_eq_true, decide_eq_true_eq] at hk
      exact ⟨z, hz, e.1.trans hk.1, e.2.trans hk.2⟩
theorem SumI.all_ (l : List It) (hl : ∀ x ∈ l, wfI x.f2) : ∀ (done : List It) (S : List Rw), SumI done S → SumI (done ++ l) (putAll S (l.map rowOf)) := by
  induction l with
  | nil => intro done S h; simpa [putAll] using h
  | cons x l ih =>
    intro done S h
    have h2 := ih (fun y hy => hl y (List.mem_cons_of_mem _ hy)) (done ++ [x]) _ (h.step (hl x List.mem_cons_self))
    simpa [putAll, List.append_assoc] using h2
theorem SumI.start : SumI [] [] := ⟨fun r hr => (by cases hr), List.Pairwise.nil, fun r hr => (by cases hr), fun a b h => (by cases h)⟩
/-- the reference's sum of items -/
theorem items_spec (l : List It) (hl : ∀ x ∈ l, wfI x.f2) : (items l).Pairwise (fun x y => x.f0 < y.f0 ∨ (x.f0 = y.f0 ∧ x.f1 < y.f1)) ∧ ∀ y, y ∈ items l ↔ (keyed l y.f0 y.f1 = true ∧ y.f2 = cnt l y.f0 y.f1 ∧ y.f2 ≠ 0) := by
  have h := SumI.all_ l hl [] [] SumI.start
  rw [List.nil_append] at h
  unfold items sum nonZero
  refine ⟨?_, fun y => ⟨fun hy => ?_, fun ⟨h1, h2, h3⟩ => ?_⟩⟩
  · rw [List.pairwise_map]
    exact (h.asc.filter _).imp (fun h => h)
  · obtain ⟨r, hr, rfl⟩ := List.mem_map.1 hy
    obtain ⟨hr1, hr2⟩ := List.mem_filter.1 hr
    exact ⟨(h.val r hr1).2, (h.val r hr1).1, by have h7 : ¬ r.f3 = 0 := (by simpa using hr2); exact h7⟩
  · obtain ⟨r, hr, e0, e1⟩ := h.all _ _ h1
    have hv := (h.val r hr).1
    refine List.mem_map.2 ⟨r, List.mem_filter.2 ⟨hr, ?_⟩, ?_⟩
    · rw [hv, e0, e1, ← h2]; simpa using h3
    · exact It.ext' e0 e1 (by show r.f3 = _; rw [hv, e0, e1, h2])
/-- two lists in order with the same members are one -/
theorem asc_unique {α : Type} {R : α → α → Prop} (hirr : ∀ x, ¬ R x x) (htr : ∀ x y z, R x y → R y z → R x z) : ∀ {l m : List α}, l.Pairwise R → m.Pairwise R → (∀ x, x ∈ l ↔ x ∈ m) → l = m
  | [], [], _, _, _ => rfl
  | [], y :: m, _, _, h => absurd ((h y).2 List.mem_cons_self) (by simp)
  | x :: l, [], _, _, h => absurd ((h x).1 List.mem_cons_self) (by simp)
  | x :: l, y :: m, hl, hm, h => by
    obtain ⟨hl1, hl2⟩ := List.pairwise_cons.1 hl
    obtain ⟨hm1, hm2⟩ := List.pairwise_cons.1 hm
    have hxy : x = y := by
      rcases List.mem_cons.1 ((h x).1 List.mem_cons_self) with e | e
      · exact e
      · rcases List.mem_cons.1 ((h y).2 List.mem_cons_self) with e2 | e2
        · exact e2.symm
        · exact absurd (htr _ _ _ (hl1 y e2) (hm1 x e)) (hirr _)
    subst hxy
    rw [asc_unique hirr htr hl2 hm2 (fun z => ⟨fun hz => ?_, fun hz => ?_⟩)]
    · rcases List.mem_cons.1 ((h z).1 (List.mem_cons_of_mem _ hz)) with e | e
      · subst e; exact absurd (hl1 z hz) (hirr _)
      · exact e
    · rcases List.mem_cons.1 ((h z).2 (List.mem_cons_of_mem _ hz)) with e | e
      · subst e; exact absurd (hm1 z hz) (hirr _)
      · exact e
end Go.Proofs.YtffibnbnabppjaaDoor.X

/-! ## PGathR -/
namespace Go.Proofs.YtffibnbnabppjaaDoor.X
open Go.RowKit

/-- rows of one key, value and time -/
def sameR (x r : Rw) : Prop := x.f0 = r.f0 ∧ x.f1 = r.f1 ∧ x.f2.f0 = r.f2.f0 ∧ x.f2.f1 = r.f2.f1
instance (x r : Rw) : Decidable (sameR x r) := by unfold sameR; infer_instance
theorem sameR_refl (x : Rw) : sameR x x := ⟨rfl, rfl, rfl, rfl⟩
theorem sameR_symm {x y : Rw} (h : sameR x y) : sameR y x := ⟨h.1.symm, h.2.1.symm, h.2.2.1.symm, h.2.2.2.symm⟩
theorem sameR_trans {x y z : Rw} (h : sameR x y) (k : sameR y z) : sameR x z := ⟨h.1.trans k.1, h.2.1.trans k.2.1, h.2.2.1.trans k.2.2.1, h.2.2.2.trans k.2.2.2⟩
def stepR (r : Rw) (c : Int) (x : Rw) : Int := if sameR x r then wrap64 (c + x.f3) else c
/-- what rows come to at a key, value and time -/
def rcnt (l : List Rw) (r : Rw) : Int := l.foldl (stepR r) 0
def rkeyed (l : List Rw) (r : Rw) : Bool := l.any fun x => decide (sameR x r)
theorem rcnt_snoc (l : List Rw) (x r : Rw) : rcnt (l ++ [x]) r = stepR r (rcnt l r) x := by simp [rcnt]
theorem rkeyed_snoc (l : List Rw) (x r : Rw) : rkeyed (l ++ [x]) r = (rkeyed l r || decide (sameR x r)) := by simp [rkeyed]
theorem stepR_like {r s : Rw} (h : sameR r s) (c : Int) (x : Rw) : stepR r c x = stepR s c x := by
  unfold stepR
  by_cases e : sameR x r
  · rw [if_pos e, if_pos (sameR_trans e h)]
  · rw [if_neg e, if_neg (fun k => e (sameR_trans k (sameR_symm h)))]
theorem rcnt_like {r s : Rw} (h : sameR r s) (l : List Rw) : rcnt l r = rcnt l s := by
  unfold rcnt; congr 1; funext c x; exact stepR_like h c x
theorem rkeyed_like {r s : Rw} (h : sameR r s) (l : List Rw) : rkeyed l r = rkeyed l s := by
  unfold rkeyed; congr 1; funext x
  by_cases e : sameR x r
  · rw [decide_eq_true e, decide_eq_true (sameR_trans e h)]
  · rw [decide_eq_false e, decide_eq_false (fun k => e (sameR_trans k (sameR_symm h)))]
theorem rcnt_none {l : List Rw} {r : Rw} (h : rkeyed l r = false) : rcnt l r = 0 := by
  unfold rcnt
  have : ∀ c, l.foldl (stepR r) c = c := by
    induction l with
    | nil => intro c; rfl
    | cons x l ih =>
      intro c
      simp only [rkeyed, List.any_cons, Bool.or_eq_false_iff] at h
      rw [List.foldl_cons, ih h.2]
      unfold stepR
      rw [if_neg (of_decide_eq_false h.1)]
  exact this 0
def fitRw (x : Rw) : Bool := (Lit.int .i64 x.f0).wf && (Lit.int .i64 x.f1).wf && (Lit.int .i64 x.f2.f0).wf && (Lit.int .i64 x.f2.f1).wf && (Lit.int .i64 x.f3).wf
theorem fitR_all {l : List Rw} (h : l.all fitRw = true) : ∀ x ∈ l, wfI x.f0 ∧ wfI x.f1 ∧ wfI x.f2.f0 ∧ wfI x.f2.f1 ∧ wfI x.f3 := fun x hx => by
  have := List.all_eq_true.1 h x hx
  simp only [fitRw, Bool.and_eq_true] at this
  exact ⟨this.1.1.1.1, this.1.1.1.2, this.1.1.2, this.1.2, this.2⟩
/-- by key, value and time -/
def ltR (x y : Rw) : Prop := x.f0 < y.f0 ∨ (x.f0 = y.f0 ∧ (x.f1 < y.f1 ∨ (x.f1 = y.f1 ∧ (x.f2.f0 < y.f2.f0 ∨ (x.f2.f0 = y.f2.f0 ∧ x.f2.f1 < y.f2.f1)))))
theorem rowAhead_iff (x y : Rw) : rowAhead x y = true ↔ ltR x y := by
  unfold rowAhead ltR ahead
  by_cases h0 : x.f0 = y.f0
  · rw [if_neg (by simpa using h0)]
    by_cases h1 : x.f1 = y.f1
    · rw [if_neg (by simpa using h1)]; simp only [Bool.or_eq_true, Bool.and_eq_true, decide_eq_true_eq]; omega
    · rw [if_pos h1, decide_eq_true_eq]; omega
  · rw [if_pos h0, decide_eq_true_eq]; omega
theorem compR_pos (x r : Rw) : 0 < comp x r ↔ ltR r x := by
  unfold comp ltR; repeat' split
  all_goals omega
theorem compR_zero (x r : Rw) : comp x r = 0 ↔ sameR x r := by
  unfold comp sameR; repeat' split
  all_goals omega
theorem ltR_irr (x : Rw) : ¬ ltR x x := by unfold ltR; omega
theorem ltR_trans {x y z : Rw} (h : ltR x y) (k : ltR y z) : ltR x z := by unfold ltR at *; omega
theorem ltR_same {x y z : Rw} (h : sameR x y) (k : ltR x z) : ltR y z := by unfold ltR sameR at *; omega
theorem ltR_same2 {x y z : Rw} (h : sameR y z) (k : ltR x y) : ltR x z := by unfold ltR sameR at *; omega
theorem ltR_third {x y : Rw} (h : ¬ ltR y x) (k : ¬ sameR x y) : ltR x y := by unfold ltR sameR at *; omega
theorem ltR_ne {x y : Rw} (h : ltR x y) : ¬ sameR x y := by unfold ltR sameR at *; omega
theorem putR_mem {r : Rw} : ∀ {S : List Rw}, S.Pairwise ltR → ∀ y ∈ put r S,
    (y ∈ S ∧ ¬ sameR y r) ∨ (sameR y r ∧ ((∃ x ∈ S, sameR x r ∧ y.f3 = wrap64 (r.f3 + x.f3)) ∨ ((∀ x ∈ S, ¬ sameR x r) ∧ y.f3 = r.f3)))
  | [], _, y, hy => by
    rw [put, List.mem_singleton] at hy
    subst hy
    exact .inr ⟨sameR_refl _, .inr ⟨fun x hx => (by cases hx), rfl⟩⟩
  | x :: xs, ha, y, hy => by
    obtain ⟨ha1, ha2⟩ := List.pairwise_cons.1 ha
    rw [put] at hy
    by_cases h1 : 0 < comp x r
    · rw [if_pos h1] at hy
      have h1' := (compR_pos x r).1 h1
      have hno : ∀ z ∈ x :: xs, ¬ sameR z r := fun z hz e => by
        rcases List.mem_cons.1 hz with rfl | hz
        · exact ltR_ne h1' (sameR_symm e)
        · exact ltR_ne (ltR_trans h1' (ha1 z hz)) (sameR_symm e)
      rcases List.mem_cons.1 hy with rfl | hy
      · exact .inr ⟨sameR_refl _, .inr ⟨hno, rfl⟩⟩
      · exact .inl ⟨hy, hno y hy⟩
    · rw [if_neg h1] at hy
      by_cases h2 : comp x r = 0
      · rw [if_pos h2] at hy
        have h2' := (compR_zero x r).1 h2
        rcases List.mem_cons.1 hy with rfl | hy
        · exact .inr ⟨⟨rfl, rfl, rfl, rfl⟩, .inl ⟨x, List.mem_cons_self, h2', rfl⟩⟩
        · exact .inl ⟨List.mem_cons_of_mem _ hy, fun e => ltR_ne (ltR_same h2' (ha1 y hy)) (sameR_symm e)⟩
      · rw [if_neg h2] at hy
        rcases List.mem_cons.1 hy with rfl | hy
        · exact .inl ⟨List.mem_cons_self, fun e => h2 ((compR_zero _ _).2 e)⟩
        · rcases putR_mem ha2 y hy with ⟨q1, q2⟩ | ⟨q1, q2⟩
          · exact .inl ⟨List.mem_cons_of_mem _ q1, q2⟩
          · refine .inr ⟨q1, ?_⟩
            rcases q2 with ⟨z, hz, q3, q4⟩ | ⟨q3, q4⟩
            · exact .inl ⟨z, List.mem_cons_of_mem _ hz, q3, q4⟩
            · refine .inr ⟨fun z hz e => ?_, q4⟩
              rcases List.mem_cons.1 hz with rfl | hz
              · exact h2 ((compR_zero _ _).2 e)
              · exact q3 z hz e
theorem putR_asc {r : Rw} : ∀ {S : List Rw}, S.Pairwise ltR → (put r S).Pairwise ltR
  | [], _ => List.pairwise_singleton _ _
  | x :: xs, ha => by
    obtain ⟨ha1, ha2⟩ := List.pairwise_cons.1 ha
    rw [put]
    by_cases h1 : 0 < comp x r
    · rw [if_pos h1]
      have h1' := (compR_pos x r).1 h1
      refine List.pairwise_cons.2 ⟨fun z hz => ?_, ha⟩
      rcases List.mem_cons.1 hz with rfl | hz
      · exact h1'
      · exact ltR_trans h1' (ha1 z hz)
    · rw [if_neg h1]
      by_cases h2 : comp x r = 0
      · rw [if_pos h2]
        exact List.pairwise_cons.2 ⟨fun z hz => ltR_same ((compR_zero x r).1 h2) (ha1 z hz), ha2⟩
      · rw [if_neg h2]
        have hxr : ltR x r := ltR_third (mt (compR_pos x r).2 h1) (mt (compR_zero x r).2 h2)
        refine List.pairwise_cons.2 ⟨fun z hz => ?_, putR_asc ha2⟩
        rcases putR_mem ha2 z hz with ⟨q1, _⟩ | ⟨q1, _⟩
        · exact ha1 z q1
        · exact ltR_same2 (sameR_symm q1) hxr
theorem putR_has {r : Rw} : ∀ {S : List Rw}, (∃ z ∈ put r S, sameR z r) ∧ ∀ y ∈ S, ∃ z ∈ put r S, sameR z y
  | [] => ⟨⟨r, (by simp [put]), sameR_refl _⟩, fun y hy => (by cases hy)⟩
  | x :: xs => by
    obtain ⟨⟨z, hz, e⟩, hall⟩ := putR_has (r := r) (S := xs)
    rw [put]
    by_cases h1 : 0 < comp x r
    · rw [if_pos h1]
      exact ⟨⟨r, List.mem_cons_self, sameR_refl _⟩, fun y hy => ⟨y, List.mem_cons_of_mem _ hy, sameR_refl _⟩⟩
    · rw [if_neg h1]
      by_cases h2 : comp x r = 0
      · rw [if_pos h2]
        have hs := (compR_zero x r).1 h2
        refine ⟨⟨_, List.mem_cons_self, ⟨rfl, rfl, rfl, rfl⟩⟩, fun y hy => ?_⟩
        rcases List.mem_cons.1 hy with rfl | hy
        · exact ⟨_, List.mem_cons_self, sameR_trans ⟨rfl, rfl, rfl, rfl⟩ (sameR_symm hs)⟩
        · exact ⟨y, List.mem_cons_of_mem _ hy, sameR_refl _⟩
      · rw [if_neg h2]
        refine ⟨⟨z, List.mem_cons_of_mem _ hz, e⟩, fun y hy => ?_⟩
        rcases List.mem_cons.1 hy with rfl | hy
        · exact ⟨_, List.mem_cons_self, sameR_refl _⟩
        · obtain ⟨u, hu, e2⟩ := hall y hy
          exact ⟨u, List.mem_cons_of_mem _ hu, e2⟩
structure SumR (l : List Rw) (S : List Rw) : Prop where
  asc : S.Pairwise ltR
  val : ∀ r ∈ S, r.f3 = rcnt l r ∧ rkeyed l r = true
  all : ∀ k, rkeyed l k = true → ∃ r ∈ S, sameR r k
theorem SumR.step {l : List Rw} {S : List Rw} (h : SumR l S) {x : Rw} (hx : wfI x.f3) : SumR (l ++ [x]) (put x S) := by
  refine ⟨putR_asc h.asc, fun y hy => ?_, fun k hk => ?_⟩
  · rw [rcnt_snoc, rkeyed_snoc, stepR]
    rcases putR_mem h.asc y hy with ⟨q1, q2⟩ | ⟨q1, q2⟩
    · rw [if_neg (fun e => q2 (sameR_symm e)), (h.val y q1).2, Bool.true_or]
      exact ⟨(h.val y q1).1, rfl⟩
    · rw [if_pos (sameR_symm q1), decide_eq_true (sameR_symm q1), Bool.or_true]
      refine ⟨?_, rfl⟩
      rw [rcnt_like q1]
      rcases q2 with ⟨z, hz, q3, q4⟩ | ⟨q3, q4⟩
      · rw [q4, (h.val z hz).1, rcnt_like q3, Int.add_comm]
      · have hno : rkeyed l x = false := by
          cases hk : rkeyed l x with
          | false => rfl
          | true =>
            obtain ⟨u, hu, g⟩ := h.all _ hk
            exact absurd g (q3 u hu)
        rw [q4, rcnt_none hno, Int.zero_add, wrap_wf hx]
  · rw [rkeyed_snoc] at hk
    obtain ⟨⟨z, hz, e⟩, hall⟩ := putR_has (r := x) (S := S)
    rcases Bool.or_eq_true _ _ ▸ hk with hk | hk
    · obtain ⟨r, hr2, g⟩ := h.all k hk
      obtain ⟨u, hu, e2⟩ := hall r hr2
      exact ⟨u, hu, sameR_trans e2 g⟩
    · exact ⟨z, hz, sameR_trans e (of_decide_eq_true hk)⟩
theorem SumR.all_ (l : List Rw) (hl : ∀ x ∈ l, wfI x.f3) : ∀ (done : List Rw) (S : List Rw), SumR done S → SumR (done ++ l) (putAll S l) := by
  induction l with
  | nil => intro done S h; simpa [putAll] using h
  | cons x l ih =>
    intro done S h
    have h2 := ih (fun y hy => hl y (List.mem_cons_of_mem _ hy)) (done ++ [x]) _ (h.step (hl x List.mem_cons_self))
    simpa [putAll, List.append_assoc] using h2
theorem SumR.start : SumR [] [] := ⟨List.Pairwise.nil, fun r hr => (by cases hr), fun a h => (by cases h)⟩
/-- the reference's sum of rows -/
theorem sum_spec (l : List Rw) (hl : ∀ x ∈ l, wfI x.f3) : (sum l).Pairwise ltR ∧ ∀ y, y ∈ sum l ↔ (rkeyed l y = true ∧ y.f3 = rcnt l y ∧ y.f3 ≠ 0) := by
  have h := SumR.all_ l hl [] [] SumR.start
  rw [List.nil_append] at h
  unfold sum nonZero
  refine ⟨h.asc.filter _, fun y => ⟨fun hy => ?_, fun ⟨h1, h2, h3⟩ => ?_⟩⟩
  · obtain ⟨hr1, hr2⟩ := List.mem_filter.1 hy
    exact ⟨(h.val y hr1).2, (h.val y hr1).1, by have h7 : ¬ y.f3 = 0 := (by simpa using hr2); exact h7⟩
  · obtain ⟨r, hr, e⟩ := h.all _ h1
    have hv := (h.val r hr).1
    have : r = y := Rw.ext' e.1 e.2.1 (Tm.ext' e.2.2.1 e.2.2.2) (by rw [hv, h2, rcnt_like e])
    subst this
    exact List.mem_filter.2 ⟨hr, by simpa using h3⟩
end Go.Proofs.YtffibnbnabppjaaDoor.X

/-! ## PSet -/
namespace Go.Proofs.YtffibnbnabppjaaDoor.X
open Go.RowKit
set_option linter.unusedVariables false

def sItem (x : It) : Bool := decide (0 ≤ x.f0) && decide (x.f0 ≤ 3) && (decide (0 ≤ x.f1) && decide (x.f1 ≤ 99)) && decide (x.f2 ≠ 0)
def sOk (x : It) : Bool := sItem x && (decide (-1099511627776 ≤ x.f2) && decide (x.f2 ≤ 1099511627776))
def sNext (p x : It) : Bool := !(decide (p.f0 > x.f0) || (decide (p.f0 = x.f0) && decide (p.f1 ≥ x.f1)))
def sGo (p : It) : List It → Bool
  | [] => true
  | x :: l => sOk x && sNext p x && sGo x l
def sAsc : List It → Bool
  | [] => true
  | x :: l => sOk x && sGo x l
def setOk (l : List It) : Bool := decide (l.length ≤ 400) && sAsc l
theorem sGo_snoc (p : It) : ∀ (l : List It) (y x : It), sGo p (l ++ [y]) = true → sGo p (l ++ [y, x]) = (sOk x && sNext y x)
  | [], y, x, h => by simp [sGo] at h ⊢; simp [h]
  | t :: l, y, x, h => by
    simp only [List.cons_append, sGo, Bool.and_eq_true] at h ⊢
    rw [sGo_snoc t l y x h.2, h.1.1, h.1.2]; rfl
theorem sAsc_snoc : ∀ (l : List It) (y x : It), sAsc (l ++ [y]) = true → sAsc (l ++ [y, x]) = (sOk x && sNext y x)
  | [], y, x, h => by simp [sAsc, sGo] at h ⊢; simp [h]
  | t :: l, y, x, h => by
    simp only [List.cons_append, sAsc, Bool.and_eq_true] at h ⊢
    rw [sGo_snoc t l y x h.2, h.1]; rfl
theorem sAsc_next {l : List It} {j : Nat} {x y : It} (h : sAsc (l.take (j + 1)) = true) (hy : l[j]? = some y) (hx : l[j + 1]? = some x) : sAsc (l.take (j + 1 + 1)) = (sOk x && sNext y x) := by
  rw [take1 hx, take1 hy, List.append_assoc]
  rw [take1 hy] at h
  exact sAsc_snoc _ y x h
theorem sAsc_first {l : List It} {x : It} {k : Nat} (hx : l[k]? = some x) (hk : ¬ 0 < k) : sAsc (l.take (k + 1)) = sOk x := by
  obtain rfl : k = 0 := by omega
  rw [take1 hx]; simp [sAsc, sGo]
theorem sGo_take (p : It) : ∀ (l : List It) (k : Nat), sGo p l = true → sGo p (l.take k) = true
  | _, 0, _ => by simp [sGo]
  | [], k + 1, _ => by simp [sGo]
  | t :: l, k + 1, h => by
    simp only [List.take_succ_cons, sGo, Bool.and_eq_true] at h ⊢
    exact ⟨h.1, sGo_take t l k h.2⟩
theorem sAsc_take : ∀ (l : List It) (k : Nat), sAsc l = true → sAsc (l.take k) = true
  | _, 0, _ => by simp [sAsc]
  | [], k + 1, _ => by simp [sAsc]
  | t :: l, k + 1, h => by
    simp only [List.take_succ_cons, sAsc, Bool.and_eq_true] at h ⊢
    exact ⟨h.1, sGo_take t l k h.2⟩
theorem sAsc_false {l : List It} (k : Nat) (h : sAsc (l.take k) = false) : sAsc l = false := by
  cases e : sAsc l
  · rfl
  · rw [sAsc_take l k e] at h; cases h
theorem sAsc_done {l : List It} {k : Nat} (h : sAsc (l.take k) = true) (hk : ¬ k < l.length) : sAsc l = true := by rwa [List.take_of_length_le (by omega)] at h
end Go.Proofs.YtffibnbnabppjaaDoor.X

/-! ## Alg -/
namespace Go.Proofs.YtffibnbnabppjaaDoor.X
open Go.RowKit
set_option linter.unusedVariables false
set_option linter.unusedSimpArgs false

/-! a sum over a list -/
def sg {α : Type} (f : α → Int) : List α → Int
  | [] => 0
  | x :: l => f x + sg f l
section
variable {α β : Type}
theorem sg_append (f : α → Int) : ∀ l m : List α, sg f (l ++ m) = sg f l + sg f m
  | [], m => by simp [sg]
  | x :: l, m => by simp only [List.cons_append, sg]; rw [sg_append f l m]; omega
theorem sg_map (f : β → Int) (g : α → β) : ∀ l : List α, sg f (l.map g) = sg (fun x => f (g x)) l
  | [] => rfl
  | x :: l => by simp only [List.map_cons, sg]; rw [sg_map f g l]
theorem sg_flatMap (f : β → Int) (g : α → List β) : ∀ l : List α, sg f (l.flatMap g) = sg (fun x => sg f (g x)) l
  | [] => rfl
  | x :: l => by rw [List.flatMap_cons, sg_append, sg_flatMap f g l]; rfl
theorem sg_filter (f : α → Int) (p : α → Bool) : ∀ l : List α, sg f (l.filter p) = sg (fun x => if p x = true then f x else 0) l
  | [] => rfl
  | x :: l => by
    by_cases h : p x = true
    · rw [List.filter_cons_of_pos h, sg, sg, if_pos h, sg_filter f p l]
    · rw [List.filter_cons_of_neg h, sg, if_neg h, sg_filter f p l]; omega
theorem sg_congr {f g : α → Int} : ∀ {l : List α}, (∀ x ∈ l, f x = g x) → sg f l = sg g l
  | [], _ => rfl
  | x :: l, h => by rw [sg, sg, h x List.mem_cons_self, sg_congr (fun y hy => h y (List.mem_cons_of_mem _ hy))]
theorem sg_zero : ∀ {f : α → Int} {l : List α}, (∀ x ∈ l, f x = 0) → sg f l = 0
  | _, [], _ => rfl
  | f, x :: l, h => by rw [sg, h x List.mem_cons_self, sg_zero (fun y hy => h y (List.mem_cons_of_mem _ hy))]; rfl
theorem sg_add (f g : α → Int) : ∀ l : List α, sg (fun x => f x + g x) l = sg f l + sg g l
  | [] => rfl
  | x :: l => by simp only [sg]; rw [sg_add f g l]; omega
theorem sg_mul (c : Int) (f : α → Int) : ∀ l : List α, sg (fun x => c * f x) l = c * sg f l
  | [] => by simp [sg]
  | x :: l => by simp only [sg]; rw [sg_mul c f l, Int.mul_add]
theorem sg_mul' (c : Int) (f : α → Int) (l : List α) : sg (fun x => f x * c) l = sg f l * c := by
  rw [Int.mul_comm, ← sg_mul]; exact sg_congr fun x _ => Int.mul_comm _ _
theorem sg_neg (f : α → Int) : ∀ l : List α, sg (fun x => - f x) l = - sg f l
  | [] => rfl
  | x :: l => by simp only [sg]; rw [sg_neg f l]; omega
theorem sg_comm (f : α → β → Int) (l : List α) : ∀ m : List β, sg (fun x => sg (f x) m) l = sg (fun y => sg (fun x => f x y) l) m
  | [] => by rw [sg]; exact sg_zero fun _ _ => rfl
  | y :: m => by simp only [sg]; rw [sg_add, sg_comm f l m]
theorem sg_le {f g : α → Int} : ∀ {l : List α}, (∀ x ∈ l, f x ≤ g x) → sg f l ≤ sg g l
  | [], _ => Int.le_refl _
  | x :: l, h => by
    have h1 := h x List.mem_cons_self
    have h2 := sg_le (l := l) (fun y hy => h y (List.mem_cons_of_mem _ hy))
    simp only [sg]; omega
theorem sg_nonneg {f : α → Int} {l : List α} (h : ∀ x ∈ l, 0 ≤ f x) : 0 ≤ sg f l := by
  have := sg_le (f := fun _ => 0) (g := f) (l := l) h
  rw [sg_zero (fun _ _ => rfl)] at this; exact this
theorem sg_mem_le {f : α → Int} : ∀ {l : List α}, (∀ x ∈ l, 0 ≤ f x) → ∀ x ∈ l, f x ≤ sg f l
  | y :: l, h, x, hx => by
    have h0 := h y List.mem_cons_self
    have h1 := sg_nonneg (fun z hz => h z (List.mem_cons_of_mem _ hz))
    rcases List.mem_cons.1 hx with rfl | hx
    · rw [sg]; omega
    · have := sg_mem_le (fun z hz => h z (List.mem_cons_of_mem _ hz)) x hx
      rw [sg]; omega
theorem sg_const (c : Int) : ∀ l : List α, sg (fun _ => c) l = c * l.length
  | [] => by simp [sg]
  | x :: l => by rw [sg, sg_const c l, List.length_cons]; rw [show ((l.length + 1 : Nat) : Int) = (l.length : Int) + 1 by omega, Int.mul_add]; omega
theorem sg_le_len {f : α → Int} {c : Int} {l : List α} (h : ∀ x ∈ l, f x ≤ c) : sg f l ≤ c * l.length := by rw [← sg_const]; exact sg_le h
end
theorem abs_tri (a b : Int) : ((a + b).natAbs : Int) ≤ a.natAbs + b.natAbs := by omega
theorem wrap_abs {a : Int} (h : (a.natAbs : Int) < 9223372036854775808) : wrap64 a = a := by unfold wrap64; omega

/-! rows -/
abbrev Wt := Int → Int → Tm → Int
/-- a row's share -/
def sh (φ : Wt) (r : Rw) : Int := r.f3 * φ r.f0 r.f1 r.f2
def mass (l : List Rw) : Int := sg (fun r => (r.f3.natAbs : Int)) l
theorem mass_nonneg (l : List Rw) : 0 ≤ mass l := sg_nonneg fun _ _ => Int.natCast_nonneg _
theorem mass_append (l m : List Rw) : mass (l ++ m) = mass l + mass m := sg_append _ _ _
theorem mass_mem {l : List Rw} {r : Rw} (h : r ∈ l) : (r.f3.natAbs : Int) ≤ mass l := sg_mem_le (f := fun r : Rw => (r.f3.natAbs : Int)) (fun _ _ => Int.natCast_nonneg _) r h
theorem mass_le {l : List Rw} {c : Int} (h : ∀ r ∈ l, (r.f3.natAbs : Int) ≤ c) : mass l ≤ c * l.length := sg_le_len h
theorem sameR_eq {x r : Rw} (h : sameR x r) : x.f0 = r.f0 ∧ x.f1 = r.f1 ∧ x.f2 = r.f2 := ⟨h.1, h.2.1, Tm.ext' h.2.2.1 h.2.2.2⟩
theorem put_sh (φ : Wt) (r : Rw) (s : List Rw) : (r.f3.natAbs : Int) + mass s < 9223372036854775808 → sg (sh φ) (put r s) = sh φ r + sg (sh φ) s ∧ mass (put r s) ≤ (r.f3.natAbs : Int) + mass s := by
  induction s with
  | nil => intro _; exact ⟨by simp [put, sg], by simp [put, mass, sg]⟩
  | cons x s ih =>
    intro h
    have hm : mass (x :: s) = (x.f3.natAbs : Int) + mass s := rfl
    rw [hm] at h ⊢
    have h0 := mass_nonneg s
    rw [put]
    by_cases h1 : 0 < comp x r
    · rw [if_pos h1]; exact ⟨rfl, Int.le_refl _⟩
    · rw [if_neg h1]
      by_cases h2 : comp x r = 0
      · rw [if_pos h2]
        obtain ⟨e0, e1, e2⟩ := sameR_eq ((compR_zero x r).1 h2)
        have hw : wrap64 (r.f3 + x.f3) = r.f3 + x.f3 := wrap_abs (by omega)
        have ht := abs_tri r.f3 x.f3
        rw [hw]
        refine ⟨?_, ?_⟩
        · simp only [sg, sh, e0, e1, e2, Int.add_mul]; omega
        · show ((r.f3 + x.f3).natAbs : Int) + mass s ≤ _
          omega
      · rw [if_neg h2]
        obtain ⟨i1, i2⟩ := ih (by omega)
        refine ⟨?_, ?_⟩
        · simp only [sg]; rw [i1]; omega
        · show (x.f3.natAbs : Int) + mass (put r s) ≤ _
          omega
theorem putAll_sh (φ : Wt) : ∀ (l s : List Rw), mass s + mass l < 9223372036854775808 → sg (sh φ) (putAll s l) = sg (sh φ) s + sg (sh φ) l ∧ mass (putAll s l) ≤ mass s + mass l
  | [], s, _ => ⟨by simp [putAll, sg], by simp [putAll, mass, sg]⟩
  | r :: l, s, h => by
    have hm : mass (r :: l) = (r.f3.natAbs : Int) + mass l := rfl
    rw [hm] at h ⊢
    have h0 := mass_nonneg l
    obtain ⟨i1, i2⟩ := put_sh φ r s (by omega)
    obtain ⟨j1, j2⟩ := putAll_sh φ l (put r s) (by omega)
    rw [putAll, j1, i1]
    exact ⟨by simp only [sg]; omega, by omega⟩
theorem nonZero_sh (φ : Wt) (l : List Rw) : sg (sh φ) (nonZero l) = sg (sh φ) l ∧ mass (nonZero l) = mass l := by
  unfold nonZero mass
  rw [sg_filter, sg_filter]
  exact ⟨sg_congr fun x _ => by by_cases h : x.f3 = 0 <;> simp [h, sh], sg_congr fun x _ => by by_cases h : x.f3 = 0 <;> simp [h]⟩
/-- a sum tells what its rows tell -/
theorem sum_sh {l : List Rw} (h : mass l < 9223372036854775808) (φ : Wt) : sg (sh φ) (sum l) = sg (sh φ) l := by
  unfold sum
  rw [(nonZero_sh φ _).1, (putAll_sh φ l [] (by simp only [mass, sg] at h ⊢; omega)).1]; simp [sg]
theorem sum_mass {l : List Rw} (h : mass l < 9223372036854775808) : mass (sum l) ≤ mass l := by
  unfold sum
  rw [(nonZero_sh (fun _ _ _ => 0) _).2]
  have := (putAll_sh (fun _ _ _ => 0) l [] (by simp only [mass, sg] at h ⊢; omega)).2
  simp only [mass, sg] at this ⊢; omega
/-- rows in order, none of nothing -/
def canon (l : List Rw) : Prop := l.Pairwise ltR ∧ ∀ r ∈ l, r.f3 ≠ 0
theorem putAll_asc : ∀ (l s : List Rw), s.Pairwise ltR → (putAll s l).Pairwise ltR
  | [], s, h => h
  | r :: l, s, h => putAll_asc l _ (putR_asc h)
theorem sum_canon (l : List Rw) : canon (sum l) := ⟨(putAll_asc l [] List.Pairwise.nil).filter _, fun r hr => by simpa using (List.mem_filter.1 hr).2⟩
def dl (k : Rw) : Wt := fun a b t => if a = k.f0 ∧ b = k.f1 ∧ t = k.f2 then 1 else 0
theorem dl_self {k r : Rw} (h : sameR r k) : sh (dl k) r = r.f3 := by unfold sh dl; rw [if_pos (sameR_eq h)]; omega
theorem dl_not {k r : Rw} (h : ¬ sameR r k) : sh (dl k) r = 0 := by
  unfold sh dl; rw [if_neg (fun e => h ⟨e.1, e.2.1, by rw [e.2.2], by rw [e.2.2]⟩)]; omega
theorem sg_dl_not {l : List Rw} {k : Rw} (h : ∀ r ∈ l, ¬ sameR r k) : sg (sh (dl k)) l = 0 := sg_zero fun r hr => dl_not (h r hr)
theorem sg_dl {k : Rw} : ∀ {l : List Rw}, l.Pairwise ltR → ∀ r ∈ l, sameR r k → sg (sh (dl k)) l = r.f3
  | x :: l, ha, r, hr, hs => by
    obtain ⟨h1, h2⟩ := List.pairwise_cons.1 ha
    rcases List.mem_cons.1 hr with rfl | hr
    · rw [sg, dl_self hs, sg_dl_not (fun y hy e => ltR_ne (h1 y hy) (sameR_trans hs (sameR_symm e)))]; omega
    · rw [sg, dl_not (fun e => ltR_ne (h1 r hr) (sameR_trans e (sameR_symm hs))), sg_dl h2 r hr hs]; omega
theorem canon_sub {l m : List Rw} (hl : canon l) (hm : canon m) (h : ∀ φ, sg (sh φ) l = sg (sh φ) m) : ∀ r ∈ l, r ∈ m := fun r hr => by
  have h1 := sg_dl hl.1 r hr (sameR_refl r)
  rw [h] at h1
  by_cases he : ∃ x ∈ m, sameR x r
  · obtain ⟨x, hx, e⟩ := he
    have h2 := sg_dl hm.1 x hx e
    rw [h1] at h2
    have : r = x := Rw.ext' e.1.symm e.2.1.symm (Tm.ext' e.2.2.1.symm e.2.2.2.symm) h2
    rw [this]; exact hx
  · rw [sg_dl_not (fun x hx e => he ⟨x, hx, e⟩)] at h1
    exact absurd h1.symm (hl.2 r hr)
/-- rows in order that tell the same are the same -/
theorem canon_eq {l m : List Rw} (hl : canon l) (hm : canon m) (h : ∀ φ, sg (sh φ) l = sg (sh φ) m) : l = m :=
  asc_unique ltR_irr (fun x y z h1 h2 => ltR_trans h1 h2) hl.1 hm.1 (fun x => ⟨canon_sub hl hm h x, canon_sub hm hl (fun φ => (h φ).symm) x⟩)
theorem sum_eq {l m : List Rw} (h1 : mass l < 9223372036854775808) (h2 : mass m < 9223372036854775808) (h : ∀ φ, sg (sh φ) l = sg (sh φ) m) : sum l = sum m :=
  canon_eq (sum_canon l) (sum_canon m) (fun φ => by rw [sum_sh h1, sum_sh h2, h])
theorem sum_self {l : List Rw} (hl : canon l) (h : mass l < 9223372036854775808) : sum l = l := canon_eq (sum_canon l) hl (fun φ => sum_sh h φ)
theorem sum_from {l : List Rw} : ∀ r ∈ sum l, ∃ x ∈ l, sameR x r := by
  have go : ∀ (l s : List Rw), ∀ r ∈ putAll s l, (∃ x ∈ s, sameR x r) ∨ ∃ x ∈ l, sameR x r := by
    intro l
    induction l with
    | nil => intro s r hr; exact .inl ⟨r, hr, sameR_refl r⟩
    | cons y l ih =>
      intro s r hr
      rcases ih _ r hr with ⟨x, hx, e⟩ | ⟨x, hx, e⟩
      · have hp : ∀ (s : List Rw), ∀ x ∈ put y s, x ∈ s ∨ sameR x y := by
          intro s
          induction s with
          | nil => intro x hx; rw [put, List.mem_singleton] at hx; subst hx; exact .inr (sameR_refl _)
          | cons z s ihs =>
            intro x hx
            rw [put] at hx
            split at hx
            · rcases List.mem_cons.1 hx with rfl | hx
              · exact .inr (sameR_refl _)
              · exact .inl hx
            · split at hx
              · rcases List.mem_cons.1 hx with rfl | hx
                · exact .inr ⟨rfl, rfl, rfl, rfl⟩
                · exact .inl (List.mem_cons_of_mem _ hx)
              · rcases List.mem_cons.1 hx with rfl | hx
                · exact .inl List.mem_cons_self
                · rcases ihs x hx with h | h
                  · exact .inl (List.mem_cons_of_mem _ h)
                  · exact .inr h
        rcases hp s x hx with h | h
        · exact .inl ⟨x, h, e⟩
        · exact .inr ⟨y, List.mem_cons_self, sameR_trans (sameR_symm h) e⟩
      · exact .inr ⟨x, List.mem_cons_of_mem _ hx, e⟩
  intro r hr
  rcases go l [] r (List.mem_filter.1 hr).1 with ⟨x, hx, _⟩ | h
  · cases hx
  · exact h
theorem put_len (r : Rw) : ∀ s : List Rw, (put r s).length ≤ s.length + 1
  | [] => by simp [put]
  | x :: s => by
    rw [put]; split
    · simp
    · split
      · simp
      · have := put_len r s; simp; omega
theorem sum_len (l : List Rw) : (sum l).length ≤ l.length := by
  have go : ∀ (l s : List Rw), (putAll s l).length ≤ s.length + l.length := by
    intro l
    induction l with
    | nil => intro s; simp [putAll]
    | cons y l ih => intro s; have h1 := ih (put y s); have h2 := put_len y s; rw [putAll, List.length_cons]; omega
  have h1 := go l []
  have h2 := List.length_filter_le (fun r : Rw => decide (r.f3 ≠ 0)) (putAll [] l)
  unfold sum nonZero; simp at h1; omega
/-- when a sum is a batch -/
theorem asc_of : ∀ {l : List Rw}, canon l → asc l = true
  | [], _ => rfl
  | r :: l, h => by
    have go : ∀ (l : List Rw) (p : Rw), (p :: l).Pairwise ltR → (∀ x ∈ l, x.f3 ≠ 0) → ascGo p l = true := by
      intro l
      induction l with
      | nil => intro p _ _; rfl
      | cons y l ih =>
        intro p hp hz
        obtain ⟨h1, h2⟩ := List.pairwise_cons.1 hp
        rw [ascGo, ih y h2 (fun x hx => hz x (List.mem_cons_of_mem _ hx)), (rowAhead_iff p y).2 (h1 y List.mem_cons_self), decide_eq_true (hz y List.mem_cons_self)]; rfl
    rw [asc, go l r h.1 (fun x hx => h.2 x (List.mem_cons_of_mem _ hx)), decide_eq_true (h.2 r List.mem_cons_self)]; rfl
theorem canon_of : ∀ {l : List Rw}, asc l = true → canon l
  | [], _ => ⟨List.Pairwise.nil, fun r hr => by cases hr⟩
  | r :: l, h => by
    have go : ∀ (l : List Rw) (p : Rw), ascGo p l = true → (p :: l).Pairwise ltR ∧ ∀ x ∈ l, x.f3 ≠ 0 := by
      intro l
      induction l with
      | nil => intro p _; exact ⟨List.pairwise_singleton _ _, fun x hx => by cases hx⟩
      | cons y l ih =>
        intro p hp
        simp only [ascGo, Bool.and_eq_true, decide_eq_true_eq] at hp
        obtain ⟨⟨h1, h2⟩, h3⟩ := hp
        obtain ⟨i1, i2⟩ := ih y h3
        have h2' := (rowAhead_iff p y).1 h2
        refine ⟨List.pairwise_cons.2 ⟨fun x hx => ?_, i1⟩, fun x hx => ?_⟩
        · rcases List.mem_cons.1 hx with rfl | hx
          · exact h2'
          · exact ltR_trans h2' ((List.pairwise_cons.1 i1).1 x hx)
        · rcases List.mem_cons.1 hx with rfl | hx
          · exact h1
          · exact i2 x hx
    simp only [asc, Bool.and_eq_true, decide_eq_true_eq] at h
    obtain ⟨i1, i2⟩ := go l r h.2
    exact ⟨i1, fun x hx => (List.mem_cons.1 hx).elim (fun e => e ▸ h.1) (i2 x)⟩
theorem rowOk_key {x r : Rw} (h : sameR x r) (hx : rowOk x = true) (hr : (r.f3.natAbs : Int) ≤ 99999) : rowOk r = true := by
  obtain ⟨e0, e1, e2⟩ := sameR_eq h
  simp only [rowOk, Bool.and_eq_true, decide_eq_true_eq] at hx ⊢
  rw [← e0, ← e1, ← e2]
  exact ⟨⟨hx.1.1, by omega⟩, by omega⟩
theorem batchOk_sum {l : List Rw} (h : ∀ x ∈ l, rowOk x = true) (hm : mass l ≤ 99999) (hn : l.length ≤ 400) : batchOk (sum l) = true := by
  have hl := sum_len l
  have hms := sum_mass (l := l) (by omega)
  unfold batchOk rowsOk
  rw [asc_of (sum_canon l), decide_eq_true (by omega), Bool.and_true, Bool.true_and, List.all_eq_true]
  intro r hr
  obtain ⟨x, hx, e⟩ := sum_from r hr
  have := mass_mem hr
  exact rowOk_key e (h x hx) (by omega)
theorem batchOk_canon {l : List Rw} (h : batchOk l = true) : canon l ∧ (∀ r ∈ l, rowOk r = true) ∧ l.length ≤ 400 := by
  simp only [batchOk, rowsOk, Bool.and_eq_true, List.all_eq_true, decide_eq_true_eq] at h
  exact ⟨canon_of h.1, h.2.1, h.2.2⟩
theorem fit_yes {l : List Rw} (h : batchOk l = true) : fit l = l := if_pos h
end Go.Proofs.YtffibnbnabppjaaDoor.X

/-! ## AlgI -/
namespace Go.Proofs.YtffibnbnabppjaaDoor.X
open Go.RowKit
set_option linter.unusedVariables false
set_option linter.unusedSimpArgs false

/-- an item's share -/
def shI (ψ : Int → Int → Int) (x : It) : Int := x.f2 * ψ x.f0 x.f1
def massI (l : List It) : Int := sg (fun x => (x.f2.natAbs : Int)) l
theorem massI_nonneg (l : List It) : 0 ≤ massI l := sg_nonneg fun _ _ => Int.natCast_nonneg _
theorem massI_append (l m : List It) : massI (l ++ m) = massI l + massI m := sg_append _ _ _
theorem massI_mem {l : List It} {x : It} (h : x ∈ l) : (x.f2.natAbs : Int) ≤ massI l := sg_mem_le (f := fun x : It => (x.f2.natAbs : Int)) (fun _ _ => Int.natCast_nonneg _) x h
theorem massI_le {l : List It} {c : Int} (h : ∀ r ∈ l, (r.f2.natAbs : Int) ≤ c) : massI l ≤ c * l.length := sg_le_len h
theorem mass_rowOf (l : List It) : mass (l.map rowOf) = massI l := sg_map _ _ _
theorem mass_itemOf (l : List Rw) : massI (l.map itemOf) = mass l := sg_map _ _ _
theorem sh_rowOf (φ : Wt) (l : List It) : sg (sh φ) (l.map rowOf) = sg (shI fun a b => φ a b ⟨0, 0⟩) l := sg_map _ _ _
theorem sh_itemOf (ψ : Int → Int → Int) (l : List Rw) : sg (shI ψ) (l.map itemOf) = sg (sh fun a b _ => ψ a b) l := sg_map _ _ _
theorem items_sh {l : List It} (h : massI l < 9223372036854775808) (ψ : Int → Int → Int) : sg (shI ψ) (items l) = sg (shI ψ) l := by
  unfold items
  rw [sh_itemOf, sum_sh (by rw [mass_rowOf]; exact h), sh_rowOf]
theorem items_mass {l : List It} (h : massI l < 9223372036854775808) : massI (items l) ≤ massI l := by
  unfold items
  rw [mass_itemOf]
  have := sum_mass (l := l.map rowOf) (by rw [mass_rowOf]; exact h)
  rwa [mass_rowOf] at this
def ltI (x y : It) : Prop := x.f0 < y.f0 ∨ (x.f0 = y.f0 ∧ x.f1 < y.f1)
def canonI (l : List It) : Prop := l.Pairwise ltI ∧ ∀ x ∈ l, x.f2 ≠ 0
theorem canonI_rows {l : List It} (h : canonI l) : canon (l.map rowOf) := by
  refine ⟨List.pairwise_map.2 (h.1.imp fun {x y} e => ?_), fun r hr => ?_⟩
  · unfold ltI at e; unfold ltR rowOf; simp only; omega
  · obtain ⟨x, hx, rfl⟩ := List.mem_map.1 hr
    exact h.2 x hx
theorem rowOf_plain {l : List It} : ∀ r ∈ sum (l.map rowOf), r.f2 = ⟨0, 0⟩ := fun r hr => by
  obtain ⟨x, hx, e⟩ := sum_from r hr
  obtain ⟨y, _, rfl⟩ := List.mem_map.1 hx
  exact (sameR_eq e).2.2.symm
theorem items_canon (l : List It) : canonI (items l) := by
  have hc := sum_canon (l.map rowOf)
  unfold items
  refine ⟨List.pairwise_map.2 (hc.1.imp_of_mem fun {x y} hx hy e => ?_), fun r hr => ?_⟩
  · have e1 := rowOf_plain x hx
    have e2 := rowOf_plain y hy
    unfold ltR at e; rw [e1, e2] at e; unfold ltI itemOf; simp only at e ⊢; omega
  · obtain ⟨x, hx, rfl⟩ := List.mem_map.1 hr
    exact hc.2 x hx
theorem rowOf_itemOf {r : Rw} (h : r.f2 = ⟨0, 0⟩) : rowOf (itemOf r) = r := Rw.ext' rfl rfl h.symm rfl
theorem map_itemOf_rowOf (l : List It) : (l.map rowOf).map itemOf = l := by
  induction l with
  | nil => rfl
  | cons x l ih => rw [List.map_cons, List.map_cons, ih]; rfl
theorem canonI_eq {l m : List It} (hl : canonI l) (hm : canonI m) (h : ∀ ψ, sg (shI ψ) l = sg (shI ψ) m) : l = m := by
  have := canon_eq (canonI_rows hl) (canonI_rows hm) (fun φ => by rw [sh_rowOf, sh_rowOf, h])
  rw [← map_itemOf_rowOf l, this, map_itemOf_rowOf]
theorem items_eq {l m : List It} (h1 : massI l < 9223372036854775808) (h2 : massI m < 9223372036854775808) (h : ∀ ψ, sg (shI ψ) l = sg (shI ψ) m) : items l = items m :=
  canonI_eq (items_canon l) (items_canon m) (fun ψ => by rw [items_sh h1, items_sh h2, h])
theorem items_self {l : List It} (hl : canonI l) (h : massI l < 9223372036854775808) : items l = l := canonI_eq (items_canon l) hl (fun ψ => items_sh h ψ)
theorem items_from {l : List It} : ∀ y ∈ items l, ∃ x ∈ l, x.f0 = y.f0 ∧ x.f1 = y.f1 := fun y hy => by
  obtain ⟨r, hr, rfl⟩ := List.mem_map.1 hy
  obtain ⟨x, hx, e⟩ := sum_from r hr
  obtain ⟨z, hz, rfl⟩ := List.mem_map.1 hx
  exact ⟨z, hz, e.1, e.2.1⟩
theorem items_length (l : List It) : (items l).length ≤ l.length := by
  have := sum_len (l.map rowOf)
  unfold items; simpa using this
/-- a key and a value in bounds -/
def keyOk (x : It) : Prop := 0 ≤ x.f0 ∧ x.f0 ≤ 3 ∧ 0 ≤ x.f1 ∧ x.f1 ≤ 99
theorem setOk_of {l : List It} (hc : canonI l) (hk : ∀ x ∈ l, keyOk x) (hm : ∀ x ∈ l, (x.f2.natAbs : Int) ≤ 1099511627776) (hn : l.length ≤ 400) : setOk l = true := by
  have ok : ∀ x ∈ l, sOk x = true := fun x hx => by
    obtain ⟨h0, h1, h2, h3⟩ := hk x hx
    have h4 := hc.2 x hx
    have h5 := hm x hx
    simp only [sOk, sItem, Bool.and_eq_true, decide_eq_true_eq]
    omega
  unfold setOk
  rw [decide_eq_true hn, Bool.true_and]
  have go : ∀ (l : List It) (p : It), (p :: l).Pairwise ltI → (∀ x ∈ l, sOk x = true) → sGo p l = true := by
    intro l
    induction l with
    | nil => intro p _ _; rfl
    | cons y l ih =>
      intro p hp hz
      obtain ⟨h1, h2⟩ := List.pairwise_cons.1 hp
      have h3 := h1 y List.mem_cons_self
      rw [sGo, ih y h2 (fun x hx => hz x (List.mem_cons_of_mem _ hx)), hz y List.mem_cons_self]
      have : sNext p y = true := by unfold ltI at h3; simp [sNext]; omega
      rw [this]; rfl
  cases l with
  | nil => rfl
  | cons x l => rw [sAsc, ok x List.mem_cons_self, go l x hc.1 (fun y hy => ok y (List.mem_cons_of_mem _ hy))]; rfl
theorem setOk_canon {l : List It} (h : setOk l = true) : canonI l ∧ (∀ x ∈ l, keyOk x ∧ (x.f2.natAbs : Int) ≤ 1099511627776) ∧ l.length ≤ 400 := by
  have okc : ∀ x : It, sOk x = true → keyOk x ∧ x.f2 ≠ 0 ∧ (x.f2.natAbs : Int) ≤ 1099511627776 := fun x hx => by
    simp only [sOk, sItem, Bool.and_eq_true, decide_eq_true_eq] at hx
    unfold keyOk; omega
  have go : ∀ (l : List It) (p : It), sGo p l = true → (p :: l).Pairwise ltI ∧ ∀ x ∈ l, sOk x = true := by
    intro l
    induction l with
    | nil => intro p _; exact ⟨List.pairwise_singleton _ _, fun x hx => by cases hx⟩
    | cons y l ih =>
      intro p hp
      simp only [sGo, Bool.and_eq_true] at hp
      obtain ⟨⟨h1, h2⟩, h3⟩ := hp
      obtain ⟨i1, i2⟩ := ih y h3
      have h2' : ltI p y := by simp [sNext] at h2; unfold ltI; omega
      refine ⟨List.pairwise_cons.2 ⟨fun x hx => ?_, i1⟩, fun x hx => ?_⟩
      · rcases List.mem_cons.1 hx with rfl | hx
        · exact h2'
        · have := (List.pairwise_cons.1 i1).1 x hx
          unfold ltI at this h2' ⊢; omega
      · rcases List.mem_cons.1 hx with rfl | hx
        · exact h1
        · exact i2 x hx
  simp only [setOk, Bool.and_eq_true, decide_eq_true_eq] at h
  have hall : l.Pairwise ltI ∧ ∀ x ∈ l, sOk x = true := by
    cases l with
    | nil => exact ⟨List.Pairwise.nil, fun x hx => by cases hx⟩
    | cons x l =>
      simp only [sAsc, Bool.and_eq_true] at h
      obtain ⟨i1, i2⟩ := go l x h.2.2
      exact ⟨i1, fun y hy => (List.mem_cons.1 hy).elim (fun e => e ▸ h.2.1) (i2 y)⟩
  exact ⟨⟨hall.1, fun x hx => (okc x (hall.2 x hx)).2.1⟩, fun x hx => ⟨(okc x (hall.2 x hx)).1, (okc x (hall.2 x hx)).2.2⟩, h.1⟩
theorem setOk_items {l : List It} (hk : ∀ x ∈ l, keyOk x) (hm : massI l ≤ 1099511627776) (hn : l.length ≤ 400) : setOk (items l) = true := by
  have h1 := items_mass (l := l) (by omega)
  have h2 := items_length l
  refine setOk_of (items_canon l) (fun y hy => ?_) (fun y hy => by have := massI_mem hy; omega) (by omega)
  obtain ⟨x, hx, e0, e1⟩ := items_from y hy
  have := hk x hx
  unfold keyOk at this ⊢; omega

/-! what is made of collections -/
def setBoth (s t : List It) : List It := if setOk s && setOk t then items (s ++ t) else []
def negI (x : It) : It := { x with f2 := wrap64 (-x.f2) }
def setLess (s : List It) : List It := if setOk s then s.map negI else []
def jval (a b : Int) : Int := Int.tmod (wrap64 (wrap64 (10 * a) + b)) 100
def pairI (x y : It) : It := ⟨x.f0, jval x.f1 y.f1, wrap64 (x.f2 * y.f2)⟩
def pairs (s t : List It) : List It := s.flatMap fun x => (t.filter fun y => decide (x.f0 = y.f0)).map (pairI x)
def setJoin (s t : List It) : List It := if setOk s && setOk t then items (pairs s t) else []
/-- a key and a value, mapped; none, if it is not kept -/
def eachKV (a b : Int) (how : Int) : Option (Int × Int) :=
  if how = 1 then some (b % 4, b - b % 4 + a) else if how = 2 then some (a, (b + 1) % 100) else if how = 3 then some (b % 4, b) else if how = 4 then some (0, b)
  else if how = 5 then (if b % 2 = 0 then some (a, b) else none) else if how = 6 then (if a % 2 = 0 then some (a, b) else none) else if how = 7 then (if b < 10 then some (a, b) else none) else none
def eachI (how : Int) (x : It) : List It := match eachKV x.f0 x.f1 how with | some (a, b) => [⟨a, b, x.f2⟩] | none => []
def setEach (s : List It) (how : Int) : List It := if setOk s && decide (1 ≤ how) && decide (how ≤ 7) then items (s.flatMap (eachI how)) else []
theorem jval_eq {a b : Int} (ha : 0 ≤ a) (ha' : a ≤ 99) (hb : 0 ≤ b) (hb' : b ≤ 99) : jval a b = (10 * a + b) % 100 := by
  unfold jval
  have e1 : wrap64 (10 * a) = 10 * a := by unfold wrap64; omega
  have e2 : wrap64 (10 * a + b) = 10 * a + b := by unfold wrap64; omega
  rw [e1, e2, Int.tmod_eq_emod_of_nonneg (by omega)]
theorem eachKV_ok {a b how : Int} (ha : 0 ≤ a) (ha' : a ≤ 3) (hb : 0 ≤ b) (hb' : b ≤ 99) {p q : Int} (h : eachKV a b how = some (p, q)) : 0 ≤ p ∧ p ≤ 3 ∧ 0 ≤ q ∧ q ≤ 99 := by
  unfold eachKV at h
  repeat' split at h
  all_goals first | (simp only [Option.some.injEq, Prod.mk.injEq] at h; obtain ⟨rfl, rfl⟩ := h; omega) | cases h
/-- the weight of what an item becomes -/
def eachW (how : Int) (ψ : Int → Int → Int) (a b : Int) : Int := match eachKV a b how with | some (p, q) => ψ p q | none => 0
theorem sh_eachI (how : Int) (ψ : Int → Int → Int) (x : It) : sg (shI ψ) (eachI how x) = shI (eachW how ψ) x := by
  unfold eachI shI eachW
  cases eachKV x.f0 x.f1 how with
  | none => simp [sg]
  | some p => obtain ⟨a, b⟩ := p; simp [sg]
theorem sh_each (how : Int) (ψ : Int → Int → Int) (s : List It) : sg (shI ψ) (s.flatMap (eachI how)) = sg (shI (eachW how ψ)) s := by
  rw [sg_flatMap]; exact sg_congr fun x _ => sh_eachI how ψ x
theorem mass_eachI (how : Int) (x : It) : massI (eachI how x) ≤ (x.f2.natAbs : Int) ∧ (eachI how x).length ≤ 1 := by
  unfold eachI massI
  cases eachKV x.f0 x.f1 how with
  | none => simp [sg]
  | some p => obtain ⟨a, b⟩ := p; simp [sg]
theorem mass_each (how : Int) (s : List It) : massI (s.flatMap (eachI how)) ≤ massI s := by
  unfold massI
  rw [sg_flatMap]; exact sg_le fun x _ => (mass_eachI how x).1
theorem len_flatMap {α β : Type} {g : α → List β} {c : Nat} : ∀ {s : List α}, (∀ x ∈ s, (g x).length ≤ c) → (s.flatMap g).length ≤ c * s.length
  | [], _ => by simp
  | x :: s, h => by
    have h1 := h x List.mem_cons_self
    have h2 := len_flatMap (s := s) (fun y hy => h y (List.mem_cons_of_mem _ hy))
    rw [List.flatMap_cons, List.length_append, List.length_cons, Nat.mul_add]; omega
theorem len_each (how : Int) (s : List It) : (s.flatMap (eachI how)).length ≤ s.length := by
  have := len_flatMap (c := 1) (s := s) (fun x _ => (mass_eachI how x).2); omega
theorem key_each {how : Int} {s : List It} (h : ∀ x ∈ s, keyOk x) : ∀ y ∈ s.flatMap (eachI how), keyOk y := fun y hy => by
  obtain ⟨x, hx, hy⟩ := List.mem_flatMap.1 hy
  unfold eachI at hy
  cases he : eachKV x.f0 x.f1 how with
  | none => rw [he] at hy; cases hy
  | some p =>
    obtain ⟨a, b⟩ := p
    rw [he] at hy
    rw [List.mem_singleton.1 hy]
    obtain ⟨h0, h1, h2, h3⟩ := h x hx
    exact eachKV_ok h0 h1 h2 h3 he
theorem mass_pairs {s t : List It} {c : Int} (h : massI s * massI t ≤ c) (hc : c < 9223372036854775808) : massI (pairs s t) ≤ massI s * massI t := by
  unfold pairs massI
  rw [sg_flatMap]
  have h0 := massI_nonneg t
  show sg _ s ≤ massI s * massI t
  have hs : massI s * massI t = sg (fun x => (x.f2.natAbs : Int) * massI t) s := by unfold massI; rw [sg_mul']
  rw [hs]
  refine sg_le fun x hx => ?_
  rw [sg_map, sg_filter]
  show _ ≤ (x.f2.natAbs : Int) * sg (fun y => (y.f2.natAbs : Int)) t
  rw [← sg_mul]
  refine sg_le fun y hy => ?_
  have h1 : ((x.f2 * y.f2).natAbs : Int) = (x.f2.natAbs : Int) * (y.f2.natAbs : Int) := by rw [Int.natAbs_mul]; simp
  have hx1 := massI_mem hx
  have hy1 := massI_mem hy
  have h2 : (x.f2.natAbs : Int) * (y.f2.natAbs : Int) ≤ massI s * massI t := Int.mul_le_mul hx1 hy1 (Int.natCast_nonneg _) (massI_nonneg s)
  have h3 : 0 ≤ (x.f2.natAbs : Int) * (y.f2.natAbs : Int) := Int.mul_nonneg (Int.natCast_nonneg _) (Int.natCast_nonneg _)
  have hw : wrap64 (x.f2 * y.f2) = x.f2 * y.f2 := wrap_abs (by omega)
  split
  · simp only [pairI, hw, h1]; exact Int.le_refl _
  · exact h3
/-- what the pairs with t weigh -/
def joinW (t : List It) (ψ : Int → Int → Int) (a b : Int) : Int := sg (fun y => if a = y.f0 then y.f2 * ψ a (jval b y.f1) else 0) t
theorem sh_pairs {s t : List It} {c : Int} (h : massI s * massI t ≤ c) (hc : c < 9223372036854775808) (ψ : Int → Int → Int) : sg (shI ψ) (pairs s t) = sg (shI (joinW t ψ)) s := by
  unfold pairs
  rw [sg_flatMap]
  refine sg_congr fun x hx => ?_
  rw [sg_map, sg_filter]
  unfold shI joinW
  rw [← sg_mul]
  refine sg_congr fun y hy => ?_
  have hx1 := massI_mem hx
  have hy1 := massI_mem hy
  have h1 : ((x.f2 * y.f2).natAbs : Int) = (x.f2.natAbs : Int) * (y.f2.natAbs : Int) := by rw [Int.natAbs_mul]; simp
  have h2 : (x.f2.natAbs : Int) * (y.f2.natAbs : Int) ≤ massI s * massI t := Int.mul_le_mul hx1 hy1 (Int.natCast_nonneg _) (massI_nonneg s)
  have hw : wrap64 (x.f2 * y.f2) = x.f2 * y.f2 := wrap_abs (by omega)
  by_cases he : x.f0 = y.f0
  · rw [if_pos (decide_eq_true he), if_pos he]
    simp only [pairI, hw]
    rw [Int.mul_assoc]
  · rw [if_neg (by simpa using he), if_neg he]; simp
/-- pairs, from the other side -/
def joinW2 (s : List It) (ψ : Int → Int → Int) (a b : Int) : Int := sg (fun x => if x.f0 = a then x.f2 * ψ a (jval x.f1 b) else 0) s
theorem sh_pairs2 {s t : List It} {c : Int} (h : massI s * massI t ≤ c) (hc : c < 9223372036854775808) (ψ : Int → Int → Int) : sg (shI ψ) (pairs s t) = sg (shI (joinW2 s ψ)) t := by
  rw [sh_pairs h hc]
  unfold shI joinW joinW2
  have e1 : sg (fun x : It => x.f2 * sg (fun y : It => if x.f0 = y.f0 then y.f2 * ψ x.f0 (jval x.f1 y.f1) else 0) t) s = sg (fun x : It => sg (fun y : It => x.f2 * (if x.f0 = y.f0 then y.f2 * ψ x.f0 (jval x.f1 y.f1) else 0)) t) s := sg_congr fun x _ => by rw [sg_mul]
  have e2 : sg (fun y : It => y.f2 * sg (fun x : It => if x.f0 = y.f0 then x.f2 * ψ y.f0 (jval x.f1 y.f1) else 0) s) t = sg (fun y : It => sg (fun x : It => y.f2 * (if x.f0 = y.f0 then x.f2 * ψ y.f0 (jval x.f1 y.f1) else 0)) s) t := sg_congr fun y _ => by rw [sg_mul]
  rw [e1, e2, sg_comm]
  refine sg_congr fun y _ => sg_congr fun x _ => ?_
  by_cases he : x.f0 = y.f0
  · rw [if_pos he, if_pos he, he, ← Int.mul_assoc, ← Int.mul_assoc, Int.mul_comm x.f2 y.f2]
  · rw [if_neg he, if_neg he]; simp
theorem key_pairs {s t : List It} (hs : ∀ x ∈ s, keyOk x) (ht : ∀ x ∈ t, keyOk x) : ∀ y ∈ pairs s t, keyOk y := fun z hz => by
  obtain ⟨x, hx, hz⟩ := List.mem_flatMap.1 hz
  obtain ⟨y, hy, rfl⟩ := List.mem_map.1 hz
  obtain ⟨h0, h1, h2, h3⟩ := hs x hx
  obtain ⟨g0, g1, g2, g3⟩ := ht y (List.mem_filter.1 hy).1
  unfold keyOk pairI
  simp only
  rw [jval_eq h2 h3 g2 g3]; omega
theorem len_pairs (s t : List It) : (pairs s t).length ≤ t.length * s.length := len_flatMap fun x _ => by
  rw [List.length_map]; exact List.length_filter_le _ _
theorem sh_append (ψ : Int → Int → Int) (s t : List It) : sg (shI ψ) (s ++ t) = sg (shI ψ) s + sg (shI ψ) t := sg_append _ _ _
theorem negI_eq {x : It} (h : (x.f2.natAbs : Int) ≤ 1099511627776) : negI x = { x with f2 := -x.f2 } := by
  unfold negI; rw [show wrap64 (-x.f2) = -x.f2 from wrap_abs (by omega)]
theorem sh_neg {s : List It} (h : ∀ x ∈ s, (x.f2.natAbs : Int) ≤ 1099511627776) (ψ : Int → Int → Int) : sg (shI ψ) (s.map negI) = - sg (shI ψ) s := by
  rw [sg_map, ← sg_neg]
  exact sg_congr fun x hx => by rw [negI_eq (h x hx)]; unfold shI; simp [Int.neg_mul]
theorem mass_neg {s : List It} (h : ∀ x ∈ s, (x.f2.natAbs : Int) ≤ 1099511627776) : massI (s.map negI) = massI s := by
  unfold massI
  rw [sg_map]
  exact sg_congr fun x hx => by rw [negI_eq (h x hx)]; simp
theorem canonI_neg {s : List It} (hc : canonI s) (h : ∀ x ∈ s, (x.f2.natAbs : Int) ≤ 1099511627776) : canonI (s.map negI) := by
  refine ⟨List.pairwise_map.2 (hc.1.imp fun {x y} e => e), fun y hy => ?_⟩
  obtain ⟨x, hx, rfl⟩ := List.mem_map.1 hy
  rw [negI_eq (h x hx)]
  have := hc.2 x hx
  simp only; omega
theorem setOk_less {s : List It} (h : setOk s = true) : setOk (s.map negI) = true := by
  obtain ⟨h1, h2, h3⟩ := setOk_canon h
  refine setOk_of (canonI_neg h1 fun x hx => (h2 x hx).2) (fun y hy => ?_) (fun y hy => ?_) (by simpa using h3)
  · obtain ⟨x, hx, rfl⟩ := List.mem_map.1 hy
    exact (h2 x hx).1
  · obtain ⟨x, hx, rfl⟩ := List.mem_map.1 hy
    rw [negI_eq (h2 x hx).2]
    have := (h2 x hx).2
    simp only; omega
end Go.Proofs.YtffibnbnabppjaaDoor.X
