/- Conditions: none. -/
import Derived.Test.YtkdendlgaaimbaaYCPl
import Derived.Test.YtkdendlgaaimbaaYTPl
import Derived.Test.YtkdendlgaaimbaaYTFt
import Derived.Test.YtkdendlgaaimbaaYTSb
import Derived.Test.YtkdendlgaaimbaaYTDr
namespace Go.Proofs.Ytkdendlgaaimbaa.X
open Go.RowKit
set_option linter.unusedVariables false
set_option linter.unusedSimpArgs false
theorem batchOk_rows {l : List Rw} (h : batchOk l = true) : rowsOk l = true := by unfold batchOk at h; rw [Bool.and_eq_true] at h; exact h.2
theorem tMeet_ok {s t : Tm} (hs : tOk s = true) (ht : tOk t = true) : tMeet s t = ⟨tmin s.f0 t.f0, tmin s.f1 t.f1⟩ := by unfold tMeet; rw [hs, ht]; rfl
theorem frontOk_all : ∀ {f : List Tm}, frontOk f = true → ∀ s ∈ f, tOk s = true := fun {f} h => by
 have go : ∀ (l : List Tm) (p : Tm), frontGo p l = true → ∀ s ∈ l, tOk s = true := fun l => by
  induction l with
  | nil => intro p _ s hs; cases hs
  | cons x l ih =>
   intro p hp s hs
   simp only [frontGo, Bool.and_eq_true] at hp
   rcases List.mem_cons.1 hs with rfl | hs
   ·exact hp.1.1
   ·exact ih x hp.2 s hs
 cases f with
 | nil => intro s hs; cases hs
 | cons x f =>
  intro s hs
  simp only [frontOk, Bool.and_eq_true] at h
  rcases List.mem_cons.1 hs with rfl | hs
  ·exact h.1
  ·exact go f x h.2 s hs
theorem mass_mv (f : List Tm) (l : List Rw) : mass (l.map (mv f)) = mass l := sg_map _ _ _
end Go.Proofs.Ytkdendlgaaimbaa.X
