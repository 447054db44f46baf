/- Conditions: none. -/
import Derived.Test.YtkdendlgaaimbaaYQPlPx0
import Derived.Test.YtkdendlgaaimbaaYQPlPx1
import Derived.Test.YtkdendlgaaimbaaYQPlPx2
import Derived.Test.YtkdendlgaaimbaaYCBs
import Derived.Test.YtkdendlgaaimbaaYQBs
namespace Go.Proofs.Ytkdendlgaaimbaa.X
open Go.RowKit Go.Proofs.Ytkdendlgaaimbaa.PPlP Go.Proofs.YtkdendlgaaimbaaW.PrintWords
set_option linter.unusedVariables false
set_option linter.unusedSimpArgs false
abbrev Pn := S62
abbrev kPn : Kd Pn := k62
theorem rdPn {w wr : World} {A : Option Addr} {k : Nat} {xs : List Pn} (h : kPn.C w A xs.length xs) (hb : Below w.heap.size w wr) (hk : k < xs.length) : ∃ ad x B c, A = some ad ∧ Aside0 (xs[k]? = some x) ∧ wr.cell? (ad.add (k * 3)) = some (.int .i64 x.f0) ∧ wr.cell? ⟨(ad.add (k * 3)).block, (ad.add (k * 3)).off + 1, none⟩ = some (.int .i64 x.f1) ∧ wr.cell? ⟨(ad.add (k * 3)).block, (ad.add (k * 3)).off + 2, none⟩ = some (.slice B x.f2.length c) ∧ Aside0 (Sl kPn wr (.slice B x.f2.length c) x.f2) := by
 obtain ⟨ad, x, cs, e, hx, hK, hc⟩ := cget h hb hk
 obtain ⟨B, c, rfl, h1, h2⟩ := k62_open hK
 exact ⟨ad, x, B, c, e, ⟨hx⟩, hc 0 _ rfl, by rw [← add_field _ _ 1 (by omega)]; exact hc 1 _ rfl, by rw [← add_field _ _ 2 (by omega)]; exact hc 2 _ rfl, ⟨⟨B, c, rfl, h1, h2⟩⟩⟩
end Go.Proofs.Ytkdendlgaaimbaa.X
