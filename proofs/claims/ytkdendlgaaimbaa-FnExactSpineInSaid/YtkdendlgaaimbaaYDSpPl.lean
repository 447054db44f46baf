/- Conditions: none. -/
import Derived.Test.YtkdendlgaaimbaaYDPlH
namespace Go.Proofs.Ytkdendlgaaimbaa.X
open Go.RowKit
set_option linter.unusedVariables false
set_option linter.unusedSimpArgs false
theorem many_app : ∀ a b : List (List Rw), many (a ++ b) = many a + many b
 | [], b => by simp [many]
 | x :: a, b => by rw [List.cons_append, many, many, many_app a b]; omega
structure SpOk (ls : List (List Rw)) (f : List Tm) : Prop where
 lay : ∀ l ∈ ls, batchOk l = true
 few : ls.length ≤ 6
 rows : many ls ≤ 400
 front : frontOk f = true
theorem spineOk_iff {ls : List (List Rw)} {f : List Tm} : spineOk ls f = true ↔ SpOk ls f := by
 unfold spineOk
 simp only [Bool.and_eq_true, decide_eq_true_eq, List.all_eq_true]
 exact ⟨fun h => ⟨h.1.1.1, h.1.1.2, h.1.2, h.2⟩, fun h => ⟨⟨⟨h.lay, h.few⟩, h.rows⟩, h.front⟩⟩
def askOk (f : List Tm) (t : Tm) : Bool := f.isEmpty || beyond f t
def oneL (f : List Tm) (a b : List Rw) : List Rw := sum ((sum (a ++ b)).map (mv f))
def lay (ls : List (List Rw)) (k : Nat) : List Rw := ls.getD k []
def joinAt (ls : List (List Rw)) (f : List Tm) (k : Nat) : List (List Rw) := ls.take k ++ oneL f (lay ls k) (lay ls (k + 1)) :: ls.drop (k + 2)
def joinB (ls : List (List Rw)) (f : List Tm) (k : Int) : Bool := spineOk ls f && (decide (0 ≤ k) && decide (k < (ls.length : Int) - 1)) && batchOk (oneL f (lay ls k.toNat) (lay ls (k.toNat + 1)))
def joinL (ls : List (List Rw)) (f : List Tm) (k : Int) : List (List Rw) := if joinB ls f k then joinAt ls f k.toNat else []
def joinF (ls : List (List Rw)) (f : List Tm) (k : Int) : List Tm := if joinB ls f k then f else []
theorem oneL_len (f : List Tm) (a b : List Rw) : (oneL f a b).length ≤ a.length + b.length := by
 unfold oneL
 have h1 := sum_len ((sum (a ++ b)).map (mv f))
 have h2 := sum_len (a ++ b)
 rw [List.length_map] at h1
 rw [List.length_append] at h2
 omega
theorem lay_at {ls : List (List Rw)} {k : Nat} (h : k < ls.length) : lay ls k = ls[k] := by unfold lay; rw [List.getD_eq_getElem?_getD, List.getElem?_eq_getElem h]; rfl
theorem lay_mem {ls : List (List Rw)} {k : Nat} (h : k < ls.length) : lay ls k ∈ ls := by rw [lay_at h]; exact List.getElem_mem h
theorem cut_at {ls : List (List Rw)} {k : Nat} (h : k + 1 < ls.length) : ls = ls.take k ++ (lay ls k :: lay ls (k + 1) :: ls.drop (k + 2)) := by
 rw [lay_at h, lay_at (show k < ls.length by omega), ← List.drop_eq_getElem_cons h, ← List.drop_eq_getElem_cons (show k < ls.length by omega), List.take_append_drop]
theorem joinAt_len {ls : List (List Rw)} {f : List Tm} {k : Nat} (h : k + 1 < ls.length) : (joinAt ls f k).length = ls.length - 1 := by
 unfold joinAt; rw [List.length_append, List.length_take, List.length_cons, List.length_drop]; omega
theorem joinAt_many {ls : List (List Rw)} {f : List Tm} {k : Nat} (h : k + 1 < ls.length) : many (joinAt ls f k) ≤ many ls := by
 have e := cut_at h
 have h1 : many ls = many (ls.take k ++ (lay ls k :: lay ls (k + 1) :: ls.drop (k + 2))) := by rw [← e]
 rw [h1]
 unfold joinAt
 rw [many_app, many_app, many, many, many]
 have := oneL_len f (lay ls k) (lay ls (k + 1))
 omega
theorem joinAt_ok {ls : List (List Rw)} {f : List Tm} {k : Nat} (h : SpOk ls f) (hk : k + 1 < ls.length) (ho : batchOk (oneL f (lay ls k) (lay ls (k + 1))) = true) : SpOk (joinAt ls f k) f := by
 refine ⟨fun l hl => ?_, by rw [joinAt_len hk]; have := h.few; omega, Nat.le_trans (joinAt_many hk) h.rows, h.front⟩
 unfold joinAt at hl
 rcases List.mem_append.1 hl with hl | hl
 ·exact h.lay l (List.mem_of_mem_take hl)
 ·rcases List.mem_cons.1 hl with rfl | hl
  ·exact ho
  ·exact h.lay l (List.mem_of_mem_drop hl)
theorem joinB_iff {ls : List (List Rw)} {f : List Tm} {k : Int} : joinB ls f k = true ↔ SpOk ls f ∧ (0 ≤ k ∧ k.toNat + 1 < ls.length) ∧ batchOk (oneL f (lay ls k.toNat) (lay ls (k.toNat + 1))) = true := by
 unfold joinB
 simp only [Bool.and_eq_true, decide_eq_true_eq, spineOk_iff]
 constructor
 ·rintro ⟨⟨h1, h2, h3⟩, h4⟩; exact ⟨h1, ⟨h2, by omega⟩, h4⟩
 ·rintro ⟨h1, ⟨h2, h3⟩, h4⟩; exact ⟨⟨h1, h2, by omega⟩, h4⟩
theorem SpOk.frontT {ls : List (List Rw)} {f : List Tm} (h : SpOk ls f) : ∀ u ∈ f, tOk u = true := frontOk_all h.front
def wl (ls : List (List Rw)) (k : Nat) : Nat := (lay ls k).length + (lay ls (k + 1)).length
def leastTo (ls : List (List Rw)) : Nat → Nat
 | 0 => 0
 | 1 => 0
 | k + 2 => if wl ls (k + 1) < wl ls (leastTo ls (k + 1)) then k + 1 else leastTo ls (k + 1)
theorem leastTo_lt (ls : List (List Rw)) : ∀ n, leastTo ls n < n ∨ leastTo ls n = 0
 | 0 => .inr rfl
 | 1 => .inr rfl
 | k + 2 => by
  have ih := leastTo_lt ls (k + 1)
  rw [leastTo]
  split
  ·exact .inl (by omega)
  ·omega
theorem leastTo_succ (ls : List (List Rw)) {k : Nat} (hk : 0 < k) : leastTo ls (k + 1) = if wl ls k < wl ls (leastTo ls k) then k else leastTo ls k := by
 obtain ⟨j, rfl⟩ : ∃ j, k = j + 1 := ⟨k - 1, by omega⟩
 rfl
def leastL6 (ls : List (List Rw)) : Nat := leastTo ls (ls.length - 1)
def inBase (ls : List (List Rw)) (f : List Tm) : List (List Rw) := if ls.length = 6 then joinAt ls f (leastL6 ls) else ls
def inB (ls : List (List Rw)) (f : List Tm) (b : List Rw) : Bool := spineOk ls f && batchOk b && b.all (fun r => askOk f r.f2) && (decide (ls.length ≠ 6) || joinB ls f (leastL6 ls)) && spineOk (inBase ls f ++ [b]) f
def inL (ls : List (List Rw)) (f : List Tm) (b : List Rw) : List (List Rw) := if inB ls f b then inBase ls f ++ [b] else []
def inF (ls : List (List Rw)) (f : List Tm) (b : List Rw) : List Tm := if inB ls f b then f else []
theorem inB_iff {ls : List (List Rw)} {f : List Tm} {b : List Rw} : inB ls f b = true ↔ SpOk ls f ∧ batchOk b = true ∧ (∀ r ∈ b, askOk f r.f2 = true) ∧ (ls.length = 6 → joinB ls f (leastL6 ls) = true) ∧ SpOk (inBase ls f ++ [b]) f := by
 unfold inB
 simp only [Bool.and_eq_true, Bool.or_eq_true, decide_eq_true_eq, List.all_eq_true, spineOk_iff]
 constructor
 ·rintro ⟨⟨⟨⟨h1, h2⟩, h3⟩, h4⟩, h5⟩; exact ⟨h1, h2, h3, fun e => h4.elim (fun h => absurd e h) id, h5⟩
 ·rintro ⟨h1, h2, h3, h4, h5⟩; exact ⟨⟨⟨⟨h1, h2⟩, h3⟩, (Decidable.em (ls.length = 6)).elim (fun e => .inr (h4 e)) .inl⟩, h5⟩
end Go.Proofs.Ytkdendlgaaimbaa.X
