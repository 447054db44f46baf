/- What a sort leaves of a row of structs: the same slice owns what it holds now; nothing else has turned. Conditions: none. -/
import Derived.Test.YtbbkimgadohdkaaXBase
import Derived.Test.YtbbkimgadohdkaaXSort
import Derived.Sort.LotA
import Derived.Sort.OwnSorted
namespace Go.Proofs.Ytbbkimgadohdkaa.X
open Go.RowKit Go.Shelf Go.Lib Go.Sort Go.Proofs.YtbbkimgadohdkaaW.PrintWords
set_option linter.unusedVariables false
set_option linter.unusedSimpArgs false

section
variable {α : Type} {d : Kd α} {e : Nat} {w : World} {base g cap : Nat} {ok : Nat → Prop}
theorem own_of_cells (enc : α → List Value) (hk : ∀ x, (enc x).length = d.sz) (hs0 : 0 < d.sz) (hM : ∀ w b ok x, d.M w b ok x (enc x)) {cur : Array Value} {xs : List α} (hb : w.heap[g]? = some (.cells cur e (0, 0))) (hsz : cur.size = cap * d.sz)
    (hl : xs.length ≤ cap) (hm : cap ≤ maxLen) (hbase : base ≤ g) (hok : ok g) (hc : ∀ j x, xs[j]? = some x → ∀ c u, (enc x)[c]? = some u → w.cell? ⟨g, j * d.sz + c, none⟩ = some u) :
    d.R e w base ok (.slice (some ⟨g, 0, none⟩) xs.length cap) xs := by
  have hle : xs.length * d.sz ≤ cap * d.sz := Nat.mul_le_mul_right _ hl
  refine ⟨fun k hk => ?_, cur.toList.take (xs.length * d.sz), ⟨by simp; omega, .inr ⟨g, cap, cur, rfl, hbase, hb, hl, hm, hsz, rfl⟩⟩, by simp; omega, fun j x hj => ?_⟩
  · have : g = k := by simpa [Value.ownBlock] using hk
    rw [← this]; exact hok
  · have hjl : j < xs.length := (List.getElem?_eq_some_iff.1 hj).1
    have hjm : (j + 1) * d.sz ≤ xs.length * d.sz := Nat.mul_le_mul_right _ (by omega)
    rw [Nat.add_mul, Nat.one_mul] at hjm
    have : ((cur.toList.take (xs.length * d.sz)).drop (j * d.sz)).take d.sz = enc x := by
      apply List.ext_getElem?
      intro i
      by_cases hi : i < d.sz
      · rw [List.getElem?_take_of_lt hi, List.getElem?_drop, List.getElem?_take_of_lt (by omega)]
        obtain ⟨u, hu⟩ : ∃ u, (enc x)[i]? = some u := ⟨_, List.getElem?_eq_getElem (by rw [hk]; exact hi)⟩
        have := hc j x hj i u hu
        rw [cell_of_row w g _ cur e (0, 0) hb] at this
        rw [hu, ← this, Array.getElem?_toList]
      · rw [List.getElem?_eq_none (by simp; omega), List.getElem?_eq_none (by rw [hk]; omega)]
    rw [this]
    exact hM _ _ _ _
/-- what the sort asks of the row -/
theorem holds_of_own [Inhabited α] (enc : α → List Value) (hk : ∀ x, (enc x).length = d.sz) (hs0 : 0 < d.sz) (hM : ∀ {w b ok x cs}, d.M w b ok x cs → cs = enc x) {n : Nat} {xs : List α} (h : d.R e w base ok (.slice (some ⟨g, 0, none⟩) n cap) xs) :
    n = xs.length ∧ HoldsK enc d.sz w g 0 xs.toArray ∧ ∃ cur, w.heap[g]? = some (.cells cur e (0, 0)) ∧ cur.size = cap * d.sz ∧ xs.length ≤ cap ∧ cap ≤ maxLen ∧ base ≤ g ∧ ok g := by
  obtain ⟨hok, inner, hown, hr⟩ := h
  rcases hown.2 with ⟨hv, _⟩ | ⟨g', cap', cur, hv, hbg, hg, hnc, hcm, hcs, htk⟩
  · cases hv
  · cases hv
    refine ⟨rfl, fun t ht => ?_, cur, hg, hcs, hnc, hcm, hbg, hok g rfl⟩
    have hlen := hr.1
    rw [size_flatK] at ht
    simp only [List.size_toArray] at ht
    have hq : t / d.sz < xs.length := Nat.div_lt_of_lt_mul (by rw [Nat.mul_comm]; exact ht)
    have hmod := Nat.mod_lt t hs0
    have hrep := hM (hr.2 (t / d.sz) _ (List.getElem?_eq_getElem hq))
    refine ⟨?_, by simp [World.frozen?, hg]⟩
    have h1 : inner[t]? = (enc xs[t / d.sz])[t % d.sz]? := by
      rw [← hrep, List.getElem?_take_of_lt hmod, List.getElem?_drop, Nat.div_add_mod' t d.sz]
    have h2 : cur[t]? = inner[t]? := by rw [← htk, List.getElem?_take_of_lt ht, Array.getElem?_toList]
    rw [Nat.zero_add, cell_of_row w g t cur e (0, 0) hg, h2, h1, get_flatK enc d.sz _ t (by simpa using ht)]
    have h3 : xs.toArray[t / d.sz]! = xs[t / d.sz] := by simp [hq]
    rw [h3]
    have h4 : t % d.sz < (enc xs[t / d.sz]).length := by rw [hk]; exact hmod
    rw [List.getElem?_eq_getElem h4]
    simp [h4]
theorem heap_sortedK [Inhabited α] (enc : α → List Value) (k : Nat) {cur : Array Value} (dk : Array α) (n : Nat) (os : Array Obj) (hb : w.heap[g]? = some (.cells cur e (0, 0))) : ∃ cur', (grow (putRowK enc k (Sort.ahead w n) g 0 dk) os).heap[g]? = some (.cells cur' e (0, 0)) ∧ cur'.size = cur.size := by
  have hlt := (Array.getElem?_eq_some_iff.1 hb).1
  refine ⟨putCells id 0 (flatK enc k dk) cur, ?_, by simp [putCells]⟩
  rw [heap_grow_old _ _ (by simpa [putRowK, putRow, mapBlock, Sort.ahead] using hlt)]
  simp [putRowK, putRow, mapBlock, Sort.ahead, Array.getElem?_modify, hb, onCells]
theorem grownBy_sortedK [Inhabited α] (enc : α → List Value) (k : Nat) (dk : Array α) (n : Nat) (os : Array Obj) : w.grownBy (grow (putRowK enc k (Sort.ahead w n) g 0 dk) os) (some g) := by
  refine ⟨rfl, rfl, rfl, by simp [size_putRowK], fun j hj hne => ?_⟩
  rw [heap_grow_old _ _ (by rw [size_putRowK]; simpa [Sort.ahead] using hj)]
  have : g ≠ j := fun h => hne (by rw [h])
  simp [putRowK, putRow, mapBlock, Sort.ahead, Array.getElem?_modify, this]
end
end Go.Proofs.Ytbbkimgadohdkaa.X
