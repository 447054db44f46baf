/- The walk of laws.heldRowS. Conditions: marked rows. -/
import Derived.Test.YthljcnlmeefcjaaYCBs
import Derived.Test.YthljcnlmeefcjaaYTBs
import Derived.Test.YthljcnlmeefcjaaYTSa
import Derived.Test.YthljcnlmeefcjaaWEqStruct
import Derived.Test.YthljcnlmeefcjaaYTPlH
namespace Go.Proofs.Ythljcnlmeefcjaa.X
open Go.RowKit Go.Proofs.YthljcnlmeefcjaaW.PrintWords
set_option linter.unusedVariables false
set_option linter.unusedSimpArgs false

theorem marks_at (n : Nat) : ∀ (k : Nat) (x : Rw), (marks 1 n)[k]? = some x → x = ⟨1 + 5 * (k : Int), 1 + 5 * (k : Int) + 1, ⟨1 + 5 * (k : Int) + 1 + 1, 1 + 5 * (k : Int) + 1 + 1 + 1⟩, 1 + 5 * (k : Int) + 1 + 1 + 1 + 1⟩ := fun k x h => by
  have hk := (List.getElem?_eq_some_iff.1 h).1
  rw [marks_len] at hk
  have e : (marks 1 n)[k]? = some (mark (1 + 5 * (k : Int))) := by unfold marks; rw [List.getElem?_map, List.getElem?_range hk]; rfl
  rw [← Option.some.inj (h.symm.trans e).symm]
  unfold mark
  refine Rw.ext' rfl rfl (Tm.ext' ?_ ?_) ?_ <;> simp only <;> omega
set_option maxRecDepth 100000 in
set_option maxHeartbeats 2000000 in
theorem laws_heldRowS (v : Value) (l : List Rw) (w : World) (h : Sl kRw w v l) (hl0 : ∀ (k : Nat) (x : Rw), l[k]? = some x → x = ⟨1 + 5 * (k : Int), 1 + 5 * (k : Int) + 1, ⟨1 + 5 * (k : Int) + 1 + 1, 1 + 5 * (k : Int) + 1 + 1 + 1⟩, 1 + 5 * (k : Int) + 1 + 1 + 1 + 1⟩) (hn : l.length ≤ 1000000) : Calls Try.prog 54 #[v, .int .i64 1] w (RetV w (.int .i64 (1 + 5 * (l.length : Int)))) := by
  have HL := Aside0.mk hl0
  clear hl0
  obtain ⟨A, c_, rfl, HC, hr⟩ := h
  have hm := Kd.C_max hr
  have HR := Aside0.mk hr
  clear hr
  have HB := Aside0.mk (Below.refl w.heap.size w)
  go_enter Try.func54, Try.ntmps54
  go_wp2
  go_loopw [1, 5] (fun q i wr => ∃ k : Nat, k ≤ l.length ∧ q = .int .i64 (1 + 5 * (k : Int)) ∧ i = .int .i64 k ∧ Aside0 (Below w.heap.size w wr)) (fun _ i _ => l.length - (intOf i).toNat)
  case atStart => exact ⟨0, Nat.zero_le _, rfl, rfl, HB⟩
  case round =>
    clear HB
    obtain ⟨k, hk, rfl, rfl, HB⟩ := hrel
    by_cases hlt : k < l.length
    · obtain ⟨ad, x, e, HX, h0, h1, h2, h3, h4⟩ := rdRw HR.out HB.out hlt
      cases e
      have ex := HL.out k x HX.out
      subst ex
      have ew : wrap64 (1 + 5 * (k : Int) + 1) = 1 + 5 * (k : Int) + 1 := by unfold wrap64; omega
      have ew2 : wrap64 (1 + 5 * (k : Int) + 1 + 1) = 1 + 5 * (k : Int) + 1 + 1 := by unfold wrap64; omega
      have ew3 : wrap64 (1 + 5 * (k : Int) + 1 + 1 + 1) = 1 + 5 * (k : Int) + 1 + 1 + 1 := by unfold wrap64; omega
      have ew4 : wrap64 (1 + 5 * (k : Int) + 1 + 1 + 1 + 1) = 1 + 5 * (k : Int) + 1 + 1 + 1 + 1 := by unfold wrap64; omega
      have ew5 : wrap64 (1 + 5 * (k : Int) + 1 + 1 + 1 + 1 + 1) = 1 + 5 * (k : Int) + 1 + 1 + 1 + 1 + 1 := by unfold wrap64; omega
      go_wp2
      go_roundw
      case rel => exact ⟨k + 1, by omega, by go_num, by go_num, HB⟩
      case measure => simp [intOf]; omega
    · obtain rfl : k = l.length := by omega
      go_wp2
      go_ret
      exact RetV.mk rfl HB.out
end Go.Proofs.Ythljcnlmeefcjaa.X

