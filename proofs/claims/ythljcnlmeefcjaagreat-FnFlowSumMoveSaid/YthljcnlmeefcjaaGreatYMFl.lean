/- The walks of flows, and what holds of rows, plainly. Conditions: none. -/
import Derived.Test.YthljcnlmeefcjaaGreatYMSb
import Derived.Test.YthljcnlmeefcjaaGreatYCPl
import Derived.Test.YthljcnlmeefcjaaGreatYMPl
import Derived.Test.YthljcnlmeefcjaaGreatYMDr
namespace Go.Proofs.YthljcnlmeefcjaaGreat.X
open Go.RowKit Go.Proofs.YthljcnlmeefcjaaGreatW.PrintWords
set_option linter.unusedVariables false
set_option linter.unusedSimpArgs false

end Go.Proofs.YthljcnlmeefcjaaGreat.X

namespace Go.Proofs.YthljcnlmeefcjaaGreat.X
open Go.RowKit Go.Proofs.YthljcnlmeefcjaaGreatW.PrintWords
set_option linter.unusedVariables false
set_option linter.unusedSimpArgs false

end Go.Proofs.YthljcnlmeefcjaaGreat.X

namespace Go.Proofs.YthljcnlmeefcjaaGreat.X
open Go.RowKit
set_option linter.unusedVariables false
set_option linter.unusedSimpArgs false

end Go.Proofs.YthljcnlmeefcjaaGreat.X

namespace Go.Proofs.YthljcnlmeefcjaaGreat.X
open Go.RowKit
set_option linter.unusedVariables false
set_option linter.unusedSimpArgs false

/-- rows in bounds, of which there are few copies -/
structure FewR (c : Int) (n : Nat) (l : List Rw) : Prop where
  mass : mass l ≤ c
  len : l.length ≤ n
  ok : ∀ r ∈ l, rowOk r = true
theorem FewR.sum {c : Int} {n : Nat} {l : List Rw} (h : FewR c n l) (hc : c ≤ 99999) : FewR c n (X.sum l) := by
  have hm := h.mass
  have h1 := sum_mass (l := l) (by omega)
  have h2 := sum_len l
  refine ⟨by omega, by have := h.len; omega, fun r hr => ?_⟩
  obtain ⟨x, hx, e⟩ := sum_from r hr
  have := mass_mem hr
  exact rowOk_key e (h.ok x hx) (by omega)
theorem FewR.batch {c : Int} {n : Nat} {l : List Rw} (h : FewR c n l) (hc : c ≤ 99999) (hn : n ≤ 400) : batchOk (X.sum l) = true := batchOk_sum h.ok (by have := h.mass; omega) (by have := h.len; omega)
theorem FewR.rows {c : Int} {n : Nat} {l : List Rw} (h : FewR c n l) (hn : n ≤ 400) : rowsOk l = true := by
  unfold rowsOk; rw [decide_eq_true (show l.length ≤ 400 by have := h.len; omega), Bool.and_true, List.all_eq_true]; exact h.ok
theorem FewR.fit {c : Int} {n : Nat} {l : List Rw} (h : FewR c n l) (hc : c ≤ 99999) (hn : n ≤ 400) : X.fit (X.sum l) = X.sum l := fit_yes (h.batch hc hn)
theorem shR_append (φ : Wt) (s t : List Rw) : sg (sh φ) (s ++ t) = sg (sh φ) s + sg (sh φ) t := sg_append _ _ _
theorem sh_present (ψ : Int → Int → Int) (l : List Rw) (t : Tm) : sg (shI ψ) (presentOf l t) = sg (sh fun a b c => if below c t = true then ψ a b else 0) l := by
  unfold presentOf
  rw [sh_itemOf, sg_filter]
  refine sg_congr fun x _ => ?_
  unfold sh
  by_cases h : below x.f2 t = true <;> simp [h]
theorem mass_presentOf (l : List Rw) (t : Tm) : massI (presentOf l t) ≤ mass l := by
  unfold presentOf
  rw [mass_itemOf]
  unfold mass
  rw [sg_filter]
  exact sg_le fun x _ => by split <;> omega
end Go.Proofs.YthljcnlmeefcjaaGreat.X

namespace Go.Proofs.YthljcnlmeefcjaaGreat.X
open Go.RowKit
set_option linter.unusedVariables false
set_option linter.unusedSimpArgs false

/-- a weight that counts what is not later than a time -/
def upW (t : Tm) (ψ : Int → Int → Int) : Wt := fun a b c => if below c t = true then ψ a b else 0
theorem sh_present' (ψ : Int → Int → Int) (l : List Rw) (t : Tm) : sg (shI ψ) (presentOf l t) = sg (sh (upW t ψ)) l := sh_present ψ l t
theorem batchAt_nil (t : Tm) : batchAt [] t = [] := by unfold batchAt; split <;> rfl
theorem present_mass {l : List Rw} {c : Int} {n : Nat} (h : FewR c n l) (hc : c ≤ 99999) (t : Tm) : massI (present l t) ≤ c ∧ massI (presentOf l t) ≤ c := by
  have h1 := mass_presentOf l t
  have h2 := h.mass
  have h3 := items_mass (l := presentOf l t) (by omega)
  unfold present
  exact ⟨by omega, by omega⟩
theorem below_join {c d t : Tm} (hc : tOk c = true) (hd : tOk d = true) : below (tJoin c d) t = (below c t && below d t) := by
  unfold tJoin; rw [hc, hd]
  simp only [Bool.and_self, if_true, below, tmax]
  rw [Bool.eq_iff_iff]
  simp only [Bool.and_eq_true, decide_eq_true_eq]
  split <;> split <;> omega
end Go.Proofs.YthljcnlmeefcjaaGreat.X

