/- The walks of the aggregates of collections, and of the negation. Conditions: none. -/
import Derived.Test.YtdppnipodndcpaaXSt3
namespace Go.Proofs.Ytdppnipodndcpaa.X
open Go.RowKit Go.Proofs.YtdppnipodndcpaaW.PrintWords
set_option linter.unusedVariables false
set_option linter.unusedSimpArgs false

def oneI (x : It) : It := ⟨x.f0, x.f1, 1⟩
/-- one copy of what there is -/
def onceL (s : List It) : List It := (s.filter fun x => decide (0 < x.f2)).map oneI
theorem onceL_snoc {s : List It} {k : Nat} {x : It} (hx : s[k]? = some x) : onceL (s.take (k + 1)) = onceL (s.take k) ++ (if 0 < x.f2 then [oneI x] else []) := by
  rw [take_snoc hx]; unfold onceL; rw [List.filter_append, List.map_append]
  by_cases h : 0 < x.f2 <;> simp [h]
theorem onceL_len (s : List It) : (onceL s).length ≤ s.length := by unfold onceL; rw [List.length_map]; exact List.length_filter_le _ _
/-- the first of each run of a key; p: the key that was last -/
def leastF (p : Option Int) : List It → List It
  | [] => []
  | x :: l => if p = some x.f0 then leastF p l else x :: leastF (some x.f0) l
def lastK (p : Option Int) : List It → Option Int
  | [] => p
  | x :: l => lastK (some x.f0) l
theorem leastF_len : ∀ (l : List It) (p : Option Int), (leastF p l).length ≤ l.length
  | [], p => by simp [leastF]
  | x :: l, p => by
    rw [leastF]
    have h1 := leastF_len l p
    have h2 := leastF_len l (some x.f0)
    split <;> simp <;> omega
theorem leastF_snoc : ∀ (l : List It) (p : Option Int) (x : It), leastF p (l ++ [x]) = leastF p l ++ (if lastK p l = some x.f0 then [] else [x])
  | [], p, x => rfl
  | y :: l, p, x => by
    rw [List.cons_append, leastF, leastF, lastK]
    by_cases h : p = some y.f0
    · rw [if_pos h, if_pos h, leastF_snoc l p x, h]
    · rw [if_neg h, if_neg h, leastF_snoc l _ x, List.cons_append]
theorem lastK_snoc : ∀ (l : List It) (p : Option Int) (x : It), lastK p (l ++ [x]) = some x.f0
  | [], p, x => rfl
  | y :: l, p, x => by rw [List.cons_append, lastK, lastK_snoc l _ x]
theorem lastK_take {l : List It} : ∀ {k : Nat}, k ≤ l.length → lastK none (l.take k) = ((leastF none (l.take k)).getLast?).map (·.f0)
  | 0, _ => by simp [lastK, leastF]
  | k + 1, h => by
    have ih := lastK_take (l := l) (k := k) (by omega)
    obtain ⟨x, hx⟩ : ∃ x, l[k]? = some x := ⟨_, List.getElem?_eq_getElem (by omega)⟩
    rw [take_snoc hx, lastK_snoc, leastF_snoc]
    split
    · rename_i hl
      rw [List.append_nil, ← ih, hl]
    · simp
def leastL (s : List It) : List It := leastF none (onceL s)
def setOnce (s : List It) : List It := if setOk s then onceL s else []
def setLeast (s : List It) : List It := if setOk s then leastL s else []
end Go.Proofs.Ytdppnipodndcpaa.X
