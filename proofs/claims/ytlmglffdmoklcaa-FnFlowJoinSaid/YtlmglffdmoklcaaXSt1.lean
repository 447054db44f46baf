/- The walks of the functions on collections: the union, the negation, values of pairs. Conditions: none. -/
import Derived.Test.YtlmglffdmoklcaaXMg
import Derived.Test.YtlmglffdmoklcaaXLb
namespace Go.Proofs.Ytlmglffdmoklcaa.X
open Go.RowKit Go.Proofs.YtlmglffdmoklcaaW.PrintWords
set_option linter.unusedVariables false
set_option linter.unusedSimpArgs false

theorem wf_of {a : Int} (h0 : -9223372036854775808 ≤ a) (h1 : a ≤ 9223372036854775807) : wfI a := (wfI_iff a).2 (by omega)
theorem sOk_of {l : List It} (h : setOk l = true) : ∀ x ∈ l, 0 ≤ x.f0 ∧ x.f0 ≤ 3 ∧ 0 ≤ x.f1 ∧ x.f1 ≤ 99 ∧ x.f2 ≠ 0 ∧ -1099511627776 ≤ x.f2 ∧ x.f2 ≤ 1099511627776 := fun x hx => by
  obtain ⟨h1, h2, h3⟩ := setOk_canon h
  have := h2 x hx
  have := h1.2 x hx
  unfold keyOk at *
  omega
theorem setOk_len {l : List It} (h : setOk l = true) : l.length ≤ 400 := (setOk_canon h).2.2
theorem setOk_fit {l : List It} (h : setOk l = true) : ∀ x ∈ l, wfI x.f0 ∧ wfI x.f1 ∧ wfI x.f2 := fun x hx => by
  have := sOk_of h x hx
  exact ⟨wf_of (by omega) (by omega), wf_of (by omega) (by omega), wf_of (by omega) (by omega)⟩
set_option maxRecDepth 100000 in
set_option maxHeartbeats 400000 in
theorem impl_joinedVal (a b : Int) (w : World) : Calls Try.prog 83 #[.int .i64 a, .int .i64 b] w (fun e w' => e = .returned (.int .i64 (jval a b)) ∧ w = w') := by
  go_enter Try.func83, Try.ntmps83
  go_wp2
  go_ret
  exact ⟨rfl, rfl⟩
set_option maxRecDepth 100000 in
set_option maxHeartbeats 400000 in
theorem spec_l3Pair (a b : Int) (w : World) : Calls Try.prog 130 #[.int .i64 a, .int .i64 b] w (fun e w' => e = .returned (.int .i64 (jval a b)) ∧ w = w') := by
  go_enter Try.func130, Try.ntmps130
  go_wp2
  go_ret
  exact ⟨by unfold jval; rw [Int.mul_comm]; rfl, rfl⟩
end Go.Proofs.Ytlmglffdmoklcaa.X
