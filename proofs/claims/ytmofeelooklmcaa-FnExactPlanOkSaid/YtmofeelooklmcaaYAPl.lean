/- Plain lemmas: times, rows, items, sums. Conditions: none. -/
import Derived.RowKit
namespace Go.Proofs.Ytmofeelooklmcaa.X
open Go.RowKit

/-- a time -/
structure Tm where
  f0 : Int
  f1 : Int
/-- a row: key, value, time, difference -/
structure Rw where
  f0 : Int
  f1 : Int
  f2 : Tm
  f3 : Int
/-- an item: key, value, count -/
structure It where
  f0 : Int
  f1 : Int
  f2 : Int
/-- a plan: kind, number, parts -/
structure Pl where
  f0 : Int
  f1 : Int
  f2 : List Pl

theorem Tm.ext' {s t : Tm} (h1 : s.f0 = t.f0) (h2 : s.f1 = t.f1) : s = t := by cases s; cases t; simp_all
theorem Rw.ext' {s t : Rw} (h1 : s.f0 = t.f0) (h2 : s.f1 = t.f1) (h3 : s.f2 = t.f2) (h4 : s.f3 = t.f3) : s = t := by cases s; cases t; simp_all
theorem It.ext' {s t : It} (h1 : s.f0 = t.f0) (h2 : s.f1 = t.f1) (h4 : s.f2 = t.f2) : s = t := by cases s; cases t; simp_all
instance : DecidableEq Tm := fun s t => if h : s.f0 = t.f0 ∧ s.f1 = t.f1 then isTrue (Tm.ext' h.1 h.2) else isFalse (fun e => h ⟨by rw [e], by rw [e]⟩)
instance : DecidableEq Rw := fun s t => if h : s.f0 = t.f0 ∧ s.f1 = t.f1 ∧ s.f2 = t.f2 ∧ s.f3 = t.f3 then isTrue (Rw.ext' h.1 h.2.1 h.2.2.1 h.2.2.2) else isFalse (fun e => h ⟨by rw [e], by rw [e], by rw [e], by rw [e]⟩)
instance : DecidableEq It := fun s t => if h : s.f0 = t.f0 ∧ s.f1 = t.f1 ∧ s.f2 = t.f2 then isTrue (It.ext' h.1 h.2.1 h.2.2) else isFalse (fun e => h ⟨by rw [e], by rw [e], by rw [e]⟩)
instance : Inhabited Tm := ⟨⟨0, 0⟩⟩
instance : Inhabited Rw := ⟨⟨0, 0, ⟨0, 0⟩, 0⟩⟩
instance : Inhabited It := ⟨⟨0, 0, 0⟩⟩

def neg (r : Rw) : Rw := { r with f3 := wrap64 (-r.f3) }
end Go.Proofs.Ytmofeelooklmcaa.X

namespace Go.Proofs.Ytmofeelooklmcaa.X
open Go.RowKit

end Go.Proofs.Ytmofeelooklmcaa.X

namespace Go.Proofs.Ytmofeelooklmcaa.X
open Go.RowKit

end Go.Proofs.Ytmofeelooklmcaa.X

namespace Go.Proofs.Ytmofeelooklmcaa.X
open Go.RowKit

/-- rows of one key, value and time -/
def sameR (x r : Rw) : Prop := x.f0 = r.f0 ∧ x.f1 = r.f1 ∧ x.f2.f0 = r.f2.f0 ∧ x.f2.f1 = r.f2.f1
instance (x r : Rw) : Decidable (sameR x r) := by unfold sameR; infer_instance
end Go.Proofs.Ytmofeelooklmcaa.X

namespace Go.Proofs.Ytmofeelooklmcaa.X
open Go.RowKit
set_option linter.unusedVariables false

end Go.Proofs.Ytmofeelooklmcaa.X

namespace Go.Proofs.Ytmofeelooklmcaa.X
open Go.RowKit
set_option linter.unusedVariables false
set_option linter.unusedSimpArgs false

section
variable {α β : Type}
end
end Go.Proofs.Ytmofeelooklmcaa.X

namespace Go.Proofs.Ytmofeelooklmcaa.X
open Go.RowKit
set_option linter.unusedVariables false
set_option linter.unusedSimpArgs false

end Go.Proofs.Ytmofeelooklmcaa.X

