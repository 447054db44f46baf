/- Spines, plainly: what they say, and that joining layers, adding a batch and moving the front keep it. Conditions: spines that are ok. -/
import Derived.Test.YthljcnlmeefcjaaYTPlH
namespace Go.Proofs.Ythljcnlmeefcjaa.X
open Go.RowKit
set_option linter.unusedVariables false
set_option linter.unusedSimpArgs false

def flatL (ls : List (List Rw)) : List Rw := ls.flatten
theorem flatL_len : ∀ ls : List (List Rw), (flatL ls).length = many ls
  | [] => rfl
  | l :: ls => by show (l ++ flatL ls).length = _; rw [List.length_append, flatL_len ls, many]
theorem many_app : ∀ a b : List (List Rw), many (a ++ b) = many a + many b
  | [], b => by simp [many]
  | x :: a, b => by rw [List.cons_append, many, many, many_app a b]; omega
theorem flatL_app (a b : List (List Rw)) : flatL (a ++ b) = flatL a ++ flatL b := by unfold flatL; rw [List.flatten_append]
structure SpOk (ls : List (List Rw)) (f : List Tm) : Prop where
  lay : ∀ l ∈ ls, batchOk l = true
  few : ls.length ≤ 6
  rows : many ls ≤ 400
  front : frontOk f = true
theorem spineOk_iff {ls : List (List Rw)} {f : List Tm} : spineOk ls f = true ↔ SpOk ls f := by
  unfold spineOk
  simp only [Bool.and_eq_true, decide_eq_true_eq, List.all_eq_true]
  exact ⟨fun h => ⟨h.1.1.1, h.1.1.2, h.1.2, h.2⟩, fun h => ⟨⟨⟨h.lay, h.few⟩, h.rows⟩, h.front⟩⟩
theorem SpOk.okrows {ls : List (List Rw)} {f : List Tm} (h : SpOk ls f) : ∀ r ∈ flatL ls, rowOk r = true := fun r hr => by
  obtain ⟨l, hl, hr⟩ := List.mem_flatten.1 hr
  exact (rowsOk_all (batchOk_rows (h.lay l hl))).2 r hr
theorem SpOk.flat {ls : List (List Rw)} {f : List Tm} (h : SpOk ls f) : rowsOk (flatL ls) = true := by
  unfold rowsOk
  rw [decide_eq_true (show (flatL ls).length ≤ 400 by rw [flatL_len]; exact h.rows), Bool.and_true, List.all_eq_true]
  exact h.okrows
def askOk (f : List Tm) (t : Tm) : Bool := f.isEmpty || beyond f t
def spMay (ls : List (List Rw)) (f : List Tm) (t : Tm) : Bool := spineOk ls f && tOk t && askOk f t
def spAt (ls : List (List Rw)) (f : List Tm) (t : Tm) : List It := if spMay ls f t then present (flatL ls) t else []
def spAll (ls : List (List Rw)) (f : List Tm) : List Rw := if spineOk ls f then fit (sum (flatL ls)) else []
def lay (ls : List (List Rw)) (k : Nat) : List Rw := ls.getD k []
end Go.Proofs.Ythljcnlmeefcjaa.X

