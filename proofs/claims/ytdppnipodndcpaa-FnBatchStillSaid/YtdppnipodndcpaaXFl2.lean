/- The walks of the pairs of changes. Conditions: none. -/
import Derived.Test.YtdppnipodndcpaaXFl1
namespace Go.Proofs.Ytdppnipodndcpaa.X
open Go.RowKit Go.Proofs.YtdppnipodndcpaaW.PrintWords
set_option linter.unusedVariables false
set_option linter.unusedSimpArgs false

def pairR (x y : Rw) : Rw := ⟨x.f0, jval x.f1 y.f1, tJoin x.f2 y.f2, wrap64 (x.f3 * y.f3)⟩
def jrowR (x : Rw) (t : List Rw) : List Rw := (t.filter fun y => decide (x.f0 = y.f0)).map (pairR x)
def pairsR (s t : List Rw) : List Rw := s.flatMap fun x => jrowR x t
def flowJoin (l m : List Rw) : List Rw := if rowsOk l && rowsOk m then fit (sum (pairsR l m)) else []
theorem pairsR_snoc {s : List Rw} {k : Nat} {x : Rw} (hx : s[k]? = some x) (t : List Rw) : pairsR (s.take (k + 1)) t = pairsR (s.take k) t ++ jrowR x t := by
  rw [take_snoc hx]; unfold pairsR; rw [List.flatMap_append]; simp
theorem jrowR_snoc {t : List Rw} {k : Nat} {y : Rw} (hy : t[k]? = some y) (x : Rw) : jrowR x (t.take (k + 1)) = jrowR x (t.take k) ++ (if x.f0 = y.f0 then [pairR x y] else []) := by
  rw [take_snoc hy]; unfold jrowR; rw [List.filter_append, List.map_append]
  by_cases h : x.f0 = y.f0 <;> simp [h]
theorem jrowR_len (x : Rw) (t : List Rw) : (jrowR x t).length ≤ t.length := by unfold jrowR; rw [List.length_map]; exact List.length_filter_le _ _
theorem pairsR_len (t : List Rw) : ∀ s : List Rw, (pairsR s t).length ≤ t.length * s.length := fun s => len_flatMap fun x _ => jrowR_len x t
theorem tJoin_in {s t : Tm} (hs : tOk s = true) (ht : tOk t = true) : tOk (tJoin s t) = true := by
  unfold tJoin; rw [hs, ht]
  simp only [tOk, Bool.and_eq_true, decide_eq_true_eq] at hs ht
  simp only [Bool.and_self, if_true, tOk, tmax, Bool.and_eq_true, decide_eq_true_eq]
  split <;> split <;> omega
/-- what a pair of rows in bounds is -/
theorem pairR_in {x y : Rw} (hx : rowOk x = true) (hy : rowOk y = true) : 0 ≤ (pairR x y).f0 ∧ (pairR x y).f0 ≤ 3 ∧ 0 ≤ (pairR x y).f1 ∧ (pairR x y).f1 ≤ 99 ∧ tOk (pairR x y).f2 = true ∧ (pairR x y).f3 = x.f3 * y.f3 ∧ (((pairR x y).f3).natAbs : Int) ≤ 9999800001 := by
  have a := rowOk_in hx
  have b := rowOk_in hy
  have hm : ((x.f3 * y.f3).natAbs : Int) ≤ 9999800001 := by
    rw [Int.natAbs_mul]
    have h1 : x.f3.natAbs ≤ 99999 := by omega
    have h2 : y.f3.natAbs ≤ 99999 := by omega
    have := Nat.mul_le_mul h1 h2
    omega
  have hw : wrap64 (x.f3 * y.f3) = x.f3 * y.f3 := wrap_abs (by omega)
  have ht : tOk (tJoin x.f2 y.f2) = true := tJoin_in (by simp only [rowOk, Bool.and_eq_true] at hx; exact hx.1.1.2) (by simp only [rowOk, Bool.and_eq_true] at hy; exact hy.1.1.2)
  have hj := jval_eq a.2.1.1 a.2.1.2 b.2.1.1 b.2.1.2
  unfold pairR
  simp only
  rw [hw, hj]
  exact ⟨a.1.1, a.1.2, by omega, by omega, ht, rfl, hm⟩
theorem pairsR_fit {s t : List Rw} (hs : ∀ r ∈ s, rowOk r = true) (ht : ∀ r ∈ t, rowOk r = true) : RwFit (pairsR s t) := RwFit.of fun z hz => by
  obtain ⟨x, hx, hz⟩ := List.mem_flatMap.1 hz
  obtain ⟨y, hy, rfl⟩ := List.mem_map.1 hz
  obtain ⟨h0, h1, h2, h3, h4, h5, h6⟩ := pairR_in (hs x hx) (ht y (List.mem_filter.1 hy).1)
  simp only [tOk, Bool.and_eq_true, decide_eq_true_eq] at h4
  omega
end Go.Proofs.Ytdppnipodndcpaa.X
