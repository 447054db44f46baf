/- Conditions: none. -/
import Derived.Test.YtkdendlgaaimbaaYQPnK
import Derived.Test.YtkdendlgaaimbaaYCBs
import Derived.Test.YtkdendlgaaimbaaYQBs
namespace Go.Proofs.Ytkdendlgaaimbaa.X
open Go.RowKit Go.ChangeShapes Go.WideShapes Go.WideElems Go.Deep Go.Proofs.YtkdendlgaaimbaaW.PrintWords
set_option linter.unusedVariables false
set_option linter.unusedSimpArgs false
theorem pnK {w : World} {x : Pn} {A : Option Addr} {c : Nat} (hc : x.f2.length ≤ c) (h : kPn.C w A x.f2.length x.f2) : kPn.K w x [.int .i64 x.f0, .int .i64 x.f1, .slice A x.f2.length c] := by
 obtain ⟨n2, q2⟩ := Kd.fix_C_back PPlP.mono62 h
 exact ⟨n2 + 1, ⟨[.int .i64 x.f0], [.int .i64 x.f1, .slice A x.f2.length c], rfl, rfl, ⟨[.int .i64 x.f1], [.slice A x.f2.length c], rfl, rfl, ⟨A, c, rfl, hc, q2⟩⟩⟩⟩
end Go.Proofs.Ytkdendlgaaimbaa.X
