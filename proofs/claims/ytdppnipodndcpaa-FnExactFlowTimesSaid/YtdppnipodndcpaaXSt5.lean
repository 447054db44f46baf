/- The walk of the negation of a collection, and the reference's sums by keys. Conditions: none. -/
import Derived.Test.YtdppnipodndcpaaXSt4
import Derived.Test.YtdppnipodndcpaaXDrSet
namespace Go.Proofs.Ytdppnipodndcpaa.X
open Go.RowKit Go.Proofs.YtdppnipodndcpaaW.PrintWords
set_option linter.unusedVariables false
set_option linter.unusedSimpArgs false

theorem set_take {α : Type} {l : List α} {k : Nat} {x : α} (f : α → α) (hx : l[k]? = some x) : ((l.take k).map f ++ l.drop k).set k (f x) = (l.take (k + 1)).map f ++ l.drop (k + 1) := by
  obtain ⟨hlt, rfl⟩ := List.getElem?_eq_some_iff.1 hx
  have hl : ((l.take k).map f).length = k := by rw [List.length_map, List.length_take]; omega
  rw [List.set_append_right _ _ (by omega), hl, Nat.sub_self, List.drop_eq_getElem_cons hlt, List.set_cons_zero, List.take_succ_eq_append_getElem hlt, List.map_append, List.append_assoc]
  rfl
theorem get_take {α : Type} {l : List α} {k : Nat} {x : α} (f : α → α) (hx : l[k]? = some x) : ((l.take k).map f ++ l.drop k)[k]? = some x := by
  obtain ⟨hlt, rfl⟩ := List.getElem?_eq_some_iff.1 hx
  have hl : ((l.take k).map f).length = k := by rw [List.length_map, List.length_take]; omega
  rw [List.getElem?_append_right (by omega), hl, Nat.sub_self, List.getElem?_drop]; simp [hlt]
theorem len_take {α : Type} {l : List α} {k : Nat} (f : α → α) (hk : k ≤ l.length) : ((l.take k).map f ++ l.drop k).length = l.length := by
  rw [List.length_append, List.length_map, List.length_take, List.length_drop]; omega
/-- what there is of a key: the counts, added -/
def keyC (s : List It) (key : Int) : Int := sg (fun x => if x.f0 = key then x.f2 else 0) s
def keyO (s : List It) (key : Int) : List It := onceL (s.filter fun x => decide (x.f0 = key))
def cval (n : Int) : Int := Int.tmod (wrap64 (Int.tmod n 100 + 100)) 100
/-- what is made of a key -/
def keyL (s : List It) (key kind : Int) : List It := if kind = 2 then keyO s key else if kind = 3 then (keyO s key).take 1 else if kind = 1 then (if keyC s key = 0 then [] else [⟨key, cval (keyC s key), 1⟩]) else []
theorem keyO_snoc {s : List It} {k : Nat} {x : It} (hx : s[k]? = some x) (key : Int) : keyO (s.take (k + 1)) key = keyO (s.take k) key ++ (if x.f0 = key ∧ 0 < x.f2 then [oneI x] else []) := by
  rw [take_snoc hx]; unfold keyO onceL; rw [List.filter_append, List.filter_append, List.map_append]
  by_cases h : x.f0 = key
  · by_cases h2 : 0 < x.f2 <;> simp [h, h2]
  · simp [h]
theorem keyO_len (s : List It) (key : Int) : (keyO s key).length ≤ s.length := Nat.le_trans (onceL_len _) (List.length_filter_le _ _)
theorem keyC_snoc {s : List It} {k : Nat} {x : It} (hx : s[k]? = some x) (key : Int) : keyC (s.take (k + 1)) key = keyC (s.take k) key + (if x.f0 = key then x.f2 else 0) := by
  rw [take_snoc hx]; unfold keyC; rw [sg_append]; simp [sg]
theorem keyC_abs (s : List It) (key : Int) : ((keyC s key).natAbs : Int) ≤ massI s := by
  induction s with
  | nil => simp [keyC, massI, sg]
  | cons x s ih => unfold keyC massI at *; simp only [sg]; split <;> omega
theorem massI_take (s : List It) (k : Nat) : massI (s.take k) ≤ massI s := by
  conv => rhs; rw [← List.take_append_drop k s, massI_append]
  have := massI_nonneg (s.drop k); omega
end Go.Proofs.Ytdppnipodndcpaa.X
