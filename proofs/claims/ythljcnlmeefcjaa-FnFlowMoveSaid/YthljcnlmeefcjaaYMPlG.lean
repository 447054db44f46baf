/- Changes of sums, plainly: what they sum up to at each time, and that they are a batch. Conditions: rows in bounds, few of them. -/
import Derived.Test.YthljcnlmeefcjaaYCPl
import Derived.Test.YthljcnlmeefcjaaYMPl
import Derived.Test.YthljcnlmeefcjaaYMFt
import Derived.Test.YthljcnlmeefcjaaYMSb
import Derived.Test.YthljcnlmeefcjaaYMFl
namespace Go.Proofs.Ythljcnlmeefcjaa.X
open Go.RowKit
set_option linter.unusedVariables false
set_option linter.unusedSimpArgs false

theorem below_trans {s t u : Tm} (h : below s t = true) (g : below t u = true) : below s u = true := by
  simp only [below, Bool.and_eq_true, decide_eq_true_eq] at h g ⊢; omega
theorem below_refl (t : Tm) : below t t = true := by simp [below]
theorem tmax_le (a b : Int) : a ≤ tmax a b ∧ b ≤ tmax a b := by unfold tmax; split <;> omega
theorem below_joinL {c d : Tm} (hc : tOk c = true) (hd : tOk d = true) : below c (tJoin c d) = true ∧ below d (tJoin c d) = true := by
  have e : tJoin c d = ⟨tmax c.f0 d.f0, tmax c.f1 d.f1⟩ := by unfold tJoin; rw [hc, hd]; rfl
  rw [e]
  simp only [below, Bool.and_eq_true, decide_eq_true_eq]
  exact ⟨⟨(tmax_le _ _).1, (tmax_le _ _).1⟩, ⟨(tmax_le _ _).2, (tmax_le _ _).2⟩⟩
end Go.Proofs.Ythljcnlmeefcjaa.X

