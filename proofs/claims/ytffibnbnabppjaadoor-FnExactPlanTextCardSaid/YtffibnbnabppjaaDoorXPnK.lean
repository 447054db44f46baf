/- Plans in memory: their kind, what is read of them, how many parts they have. Conditions: none. -/
import Derived.Test.YtffibnbnabppjaaDoorPPlPx0
import Derived.Test.YtffibnbnabppjaaDoorPPlPx1
import Derived.Test.YtffibnbnabppjaaDoorPPlPx2
import Derived.Test.YtffibnbnabppjaaDoorXBs
namespace Go.Proofs.YtffibnbnabppjaaDoor.X
open Go.RowKit Go.Proofs.YtffibnbnabppjaaDoor.PPlP Go.Proofs.YtffibnbnabppjaaDoorW.PrintWords
set_option linter.unusedVariables false
set_option linter.unusedSimpArgs false

abbrev Pn := S29
abbrev kPn : Kd Pn := k29
theorem kids_lt {x : Pn} {l : List Pn} (h : x ∈ l) : SizeOf.sizeOf x.f2 < SizeOf.sizeOf l := by
  have h1 := List.sizeOf_lt_of_mem h
  have h2 : SizeOf.sizeOf x.f2 < SizeOf.sizeOf x := by
    obtain ⟨a, b, ks⟩ := x
    show SizeOf.sizeOf ks < _
    rw [S29.mk.sizeOf_spec]
    omega
  omega
theorem rdPn {w wr : World} {A : Option Addr} {k : Nat} {xs : List Pn} (h : kPn.C w A xs.length xs) (hb : Below w.heap.size w wr) (hk : k < xs.length) : ∃ ad x B c, A = some ad ∧ Aside0 (xs[k]? = some x) ∧ wr.cell? (ad.add (k * 3)) = some (.int .i64 x.f0) ∧ wr.cell? ⟨(ad.add (k * 3)).block, (ad.add (k * 3)).off + 1, none⟩ = some (.int .i64 x.f1) ∧ wr.cell? ⟨(ad.add (k * 3)).block, (ad.add (k * 3)).off + 2, none⟩ = some (.slice B x.f2.length c) ∧ Aside0 (Sl kPn wr (.slice B x.f2.length c) x.f2) := by
  obtain ⟨ad, x, cs, e, hx, hK, hc⟩ := cget h hb hk
  obtain ⟨B, c, rfl, h1, h2⟩ := k29_open hK
  exact ⟨ad, x, B, c, e, ⟨hx⟩, hc 0 _ rfl, by rw [← add_field _ _ 1 (by omega)]; exact hc 1 _ rfl, by rw [← add_field _ _ 2 (by omega)]; exact hc 2 _ rfl, ⟨⟨B, c, rfl, h1, h2⟩⟩⟩
/-! how many parts -/
mutual
def cntP : Pn → Nat
  | ⟨_, _, ks⟩ => cntL ks
def cntL : List Pn → Nat
  | [] => 0
  | x :: l => 1 + cntP x + cntL l
end
theorem cntP_eq (x : Pn) : cntP x = cntL x.f2 := by
  obtain ⟨a, b, ks⟩ := x
  rw [cntP]
/-- the parts of the parts -/
def sumP : List Pn → Nat
  | [] => 0
  | x :: l => cntL x.f2 + sumP l
theorem cntL_eq : ∀ l : List Pn, cntL l = l.length + sumP l
  | [] => by rw [cntL]; rfl
  | x :: l => by rw [cntL, cntP_eq, cntL_eq l, sumP, List.length_cons]; omega
theorem sumP_app : ∀ a b : List Pn, sumP (a ++ b) = sumP a + sumP b
  | [], b => by simp [sumP]
  | x :: a, b => by rw [List.cons_append, sumP, sumP, sumP_app a b]; omega
theorem sumP_take {l : List Pn} {k : Nat} {x : Pn} (h : l[k]? = some x) : sumP (l.take (k + 1)) = sumP (l.take k) + cntL x.f2 := by
  rw [take_snoc h, sumP_app]
  simp [sumP]
theorem sumP_mono (l : List Pn) (k : Nat) : sumP (l.take k) ≤ sumP l := by
  have : sumP l = sumP (l.take k ++ l.drop k) := by rw [List.take_append_drop]
  rw [this, sumP_app]; omega
theorem sumP_le (l : List Pn) : sumP l ≤ cntL l := by rw [cntL_eq]; omega
theorem cnt_mem {l : List Pn} {x : Pn} (h : x ∈ l) : cntL x.f2 + 1 ≤ cntL l := by
  obtain ⟨k, hk, rfl⟩ := List.getElem_of_mem h
  have h1 := sumP_take (l := l) (k := k) (List.getElem?_eq_getElem hk)
  have h2 := sumP_mono l (k + 1)
  rw [cntL_eq l]
  omega
end Go.Proofs.YtffibnbnabppjaaDoor.X
