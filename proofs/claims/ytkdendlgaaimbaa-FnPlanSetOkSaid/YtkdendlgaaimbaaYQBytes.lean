/- Conditions: none. -/
import Derived.Test.YtkdendlgaaimbaaYCBs
import Derived.Test.YtkdendlgaaimbaaYQBs
import Derived.SizedLaws
import Derived.OpenShut
namespace Go.Proofs.Ytkdendlgaaimbaa.X
open Go.RowKit Go.ChangeShapes Go.WideShapes Go.ChangeAt Go.Proofs.YtkdendlgaaimbaaW.PrintWords
set_option linter.unusedVariables false
def IsBytes (w : World) (v : Value) (l : List Int) : Prop := Sl kB w v l ∧ ∀ x ∈ l, 0 ≤ x ∧ x ≤ 255
def IsRow (w : World) (a : Option Addr) (len cap : Nat) (zs : List Int) : Prop :=
 (a = none ∧ len = 0 ∧ cap = 0 ∧ zs = []) ∨
 ∃ x, a = some x ∧ len ≤ cap ∧ cap ≤ maxLen ∧ zs.length = cap ∧ (∀ i, i < zs.length → w.cell? (x.add i) = some (.int .u8 (zs.getD i 0))) ∧ ∀ n ∈ zs, (Lit.int .u8 n).wf = true
theorem byte_wf {x : Int} (h : (Lit.int .u8 x).wf = true) : 0 ≤ x ∧ x ≤ 255 := by
 have h1 : IntKind.u8.min = 0 := by decide
 have h2 : IntKind.u8.max = 255 := by decide
 simp [Lit.wf, h1, h2] at h
 exact h
theorem IsRow.bytes {w : World} {a : Option Addr} {len cap : Nat} {zs : List Int} (h : IsRow w a len cap zs) : IsBytes w (.slice a len cap) (zs.take len) := by
 rcases h with ⟨rfl, rfl, rfl, rfl⟩ | ⟨x, rfl, h1, h2, h3, h4, h5⟩
 ·exact ⟨Sl.nil kB w, fun x hx => by cases hx⟩
 ·have hlen : (zs.take len).length = len := by rw [List.length_take]; omega
  refine ⟨⟨some x, cap, by rw [hlen], by omega, ⟨rfl, by unfold maxLen at h2; omega, fun _ => ⟨x, rfl, fun j p hj => ⟨[.int .u8 p], rfl, rfl, fun i u hu => ?_⟩⟩⟩⟩, fun y hy => byte_wf (h5 y (List.mem_of_mem_take hy))⟩
  have hi : i = 0 := by have := (List.getElem?_eq_some_iff.1 hu).1; simp at this; omega
  subst hi
  have : u = .int .u8 p := by simpa using hu.symm
  subst this
  have hj2 := (List.getElem?_eq_some_iff.1 hj).1
  rw [List.getElem?_take] at hj
  split at hj
  ·have := h4 j (by omega)
   rw [Nat.add_zero, show kB.sz = 1 from rfl, Nat.mul_one, this]
   simp [List.getD, hj]
  ·cases hj
theorem IsBytes.sl {w : World} {v : Value} {l : List Int} (h : IsBytes w v l) : Sl kB w v l := h.1
theorem IsBytes.by_ {w : World} {v : Value} {l : List Int} (h : IsBytes w v l) : ∀ x ∈ l, 0 ≤ x ∧ x ≤ 255 := h.2
theorem IsBytes.below {w w1 : World} {v : Value} {l : List Int} (h : IsBytes w v l) (hb : Below w.heap.size w w1) : IsBytes w1 v l := ⟨h.1.below hb, h.2⟩
end Go.Proofs.Ytkdendlgaaimbaa.X
