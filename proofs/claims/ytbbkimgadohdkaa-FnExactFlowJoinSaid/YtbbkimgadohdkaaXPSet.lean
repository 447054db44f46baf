/- Collections of items: what SetOk asks. Conditions: none. -/
import Derived.Test.YtbbkimgadohdkaaXPTimes
import Derived.Test.YtbbkimgadohdkaaXPGath
namespace Go.Proofs.Ytbbkimgadohdkaa.X
open Go.RowKit
set_option linter.unusedVariables false

def sItem (x : It) : Bool := decide (0 ≤ x.f0) && decide (x.f0 ≤ 3) && (decide (0 ≤ x.f1) && decide (x.f1 ≤ 99)) && decide (x.f2 ≠ 0)
def sOk (x : It) : Bool := sItem x && (decide (-1099511627776 ≤ x.f2) && decide (x.f2 ≤ 1099511627776))
def sNext (p x : It) : Bool := !(decide (p.f0 > x.f0) || (decide (p.f0 = x.f0) && decide (p.f1 ≥ x.f1)))
def sGo (p : It) : List It → Bool
  | [] => true
  | x :: l => sOk x && sNext p x && sGo x l
def sAsc : List It → Bool
  | [] => true
  | x :: l => sOk x && sGo x l
def setOk (l : List It) : Bool := decide (l.length ≤ 400) && sAsc l
theorem sGo_snoc (p : It) : ∀ (l : List It) (y x : It), sGo p (l ++ [y]) = true → sGo p (l ++ [y, x]) = (sOk x && sNext y x)
  | [], y, x, h => by simp [sGo] at h ⊢; simp [h]
  | t :: l, y, x, h => by
    simp only [List.cons_append, sGo, Bool.and_eq_true] at h ⊢
    rw [sGo_snoc t l y x h.2, h.1.1, h.1.2]; rfl
theorem sAsc_snoc : ∀ (l : List It) (y x : It), sAsc (l ++ [y]) = true → sAsc (l ++ [y, x]) = (sOk x && sNext y x)
  | [], y, x, h => by simp [sAsc, sGo] at h ⊢; simp [h]
  | t :: l, y, x, h => by
    simp only [List.cons_append, sAsc, Bool.and_eq_true] at h ⊢
    rw [sGo_snoc t l y x h.2, h.1]; rfl
theorem sAsc_next {l : List It} {j : Nat} {x y : It} (h : sAsc (l.take (j + 1)) = true) (hy : l[j]? = some y) (hx : l[j + 1]? = some x) : sAsc (l.take (j + 1 + 1)) = (sOk x && sNext y x) := by
  rw [take1 hx, take1 hy, List.append_assoc]
  rw [take1 hy] at h
  exact sAsc_snoc _ y x h
theorem sAsc_first {l : List It} {x : It} {k : Nat} (hx : l[k]? = some x) (hk : ¬ 0 < k) : sAsc (l.take (k + 1)) = sOk x := by
  obtain rfl : k = 0 := by omega
  rw [take1 hx]; simp [sAsc, sGo]
theorem sGo_take (p : It) : ∀ (l : List It) (k : Nat), sGo p l = true → sGo p (l.take k) = true
  | _, 0, _ => by simp [sGo]
  | [], k + 1, _ => by simp [sGo]
  | t :: l, k + 1, h => by
    simp only [List.take_succ_cons, sGo, Bool.and_eq_true] at h ⊢
    exact ⟨h.1, sGo_take t l k h.2⟩
theorem sAsc_take : ∀ (l : List It) (k : Nat), sAsc l = true → sAsc (l.take k) = true
  | _, 0, _ => by simp [sAsc]
  | [], k + 1, _ => by simp [sAsc]
  | t :: l, k + 1, h => by
    simp only [List.take_succ_cons, sAsc, Bool.and_eq_true] at h ⊢
    exact ⟨h.1, sGo_take t l k h.2⟩
theorem sAsc_false {l : List It} (k : Nat) (h : sAsc (l.take k) = false) : sAsc l = false := by
  cases e : sAsc l
  · rfl
  · rw [sAsc_take l k e] at h; cases h
theorem sAsc_done {l : List It} {k : Nat} (h : sAsc (l.take k) = true) (hk : ¬ k < l.length) : sAsc l = true := by rwa [List.take_of_length_le (by omega)] at h
end Go.Proofs.Ytbbkimgadohdkaa.X
