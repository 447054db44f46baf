/- The walks of the sum of items by its kind: impl.SetCount, laws.lwSum. Conditions: none. -/
import Derived.Test.YthljcnlmeefcjaaYAPlH
import Derived.Test.YthljcnlmeefcjaaYAFs3
import Derived.Test.YthljcnlmeefcjaaYALw
namespace Go.Proofs.Ythljcnlmeefcjaa.X
open Go.RowKit Go.Proofs.YthljcnlmeefcjaaW.PrintWords
set_option linter.unusedVariables false
set_option linter.unusedSimpArgs false

set_option maxRecDepth 100000 in
set_option maxHeartbeats 2000000 in
theorem impl_SetCount (v : Value) (s : List It) (w : World) (h : Sl kIt w v s) : Calls Try.prog 165 #[v] w (RetR kIt 151 w (setCount s)) := by
  have HS := Aside0.mk h
  cases hs : setOk s
  · have HB := Aside0.mk (Below.refl w.heap.size w)
    go_enter Try.func165, Try.ntmps165
    go_wp2_with (go_at_call 96; ((with_reducible refine (impl_SetOk _ s _ (HS.out.below HB.out)).mono ?_); rintro e w' ⟨rfl, hb⟩; replace HB := Aside0.mk (bthen HB.out hb); clear hb))
    go_ret
    exact RetR.mk (by rw [setCount, hs]; exact Kd.R_nil _ _ _ _ _) HB.out
  · have hm := massI_ok hs
    have hl := setOk_len hs
    have HB := Aside0.mk (Below.refl w.heap.size w)
    go_enter Try.func165, Try.ntmps165
    go_wp2_with (first | (go_at_call 96; ((with_reducible refine (impl_SetOk _ s _ (HS.out.below HB.out)).mono ?_); rintro e w' ⟨rfl, hb⟩; replace HB := Aside0.mk (bthen HB.out hb); clear hb)) | (go_at_call 202; ((with_reducible refine (impl_counted _ s _ (HS.out.below HB.out) hm (by omega)).mono ?_); rintro e w' ⟨u, rfl, hr, hb⟩; have HF := Aside0.mk (Kd.R_lower hr HB.out.size); replace HB := Aside0.mk (bthen HB.out hb); clear hr hb)))
    go_ret
    exact RetR.mk (by rw [setCount, hs]; exact HF.out) HB.out
set_option maxRecDepth 100000 in
set_option maxHeartbeats 2000000 in
theorem laws_lwSum (v : Value) (s : List It) (kind : Int) (w : World) (h : Sl kIt w v s) : Calls Try.prog 92 #[v, .int .i64 kind] w (RetR kIt 151 w (lwSum s kind)) := by
  have HS := Aside0.mk h
  by_cases h1 : kind = 1
  · subst h1
    have HB := Aside0.mk (Below.refl w.heap.size w)
    go_enter Try.func92, Try.ntmps92
    go_wp2_with (go_at_call 165; ((with_reducible refine (impl_SetCount _ s _ (HS.out.below HB.out)).mono ?_); rintro e w' ⟨u, rfl, hr, hb⟩; have HF := Aside0.mk (Kd.R_lower hr HB.out.size); replace HB := Aside0.mk (bthen HB.out hb); clear hr hb))
    go_ret
    exact RetR.mk HF.out HB.out
  · have e1 : (kind == 1) = false := beq_eq_false_iff_ne.2 h1
    by_cases h2 : kind = 2
    · subst h2
      have HB := Aside0.mk (Below.refl w.heap.size w)
      go_enter Try.func92, Try.ntmps92
      go_wp2_with (go_at_call 166; ((with_reducible refine (impl_SetOnce _ s _ (HS.out.below HB.out)).mono ?_); rintro e w' ⟨u, rfl, hr, hb⟩; have HF := Aside0.mk (Kd.R_lower hr HB.out.size); replace HB := Aside0.mk (bthen HB.out hb); clear hr hb))
      go_ret
      exact RetR.mk HF.out HB.out
    · have e2 : (kind == 2) = false := beq_eq_false_iff_ne.2 h2
      by_cases h3 : kind = 3
      · subst h3
        have HB := Aside0.mk (Below.refl w.heap.size w)
        go_enter Try.func92, Try.ntmps92
        go_wp2_with (go_at_call 167; ((with_reducible refine (impl_SetLeast _ s _ (HS.out.below HB.out)).mono ?_); rintro e w' ⟨u, rfl, hr, hb⟩; have HF := Aside0.mk (Kd.R_lower hr HB.out.size); replace HB := Aside0.mk (bthen HB.out hb); clear hr hb))
        go_ret
        exact RetR.mk HF.out HB.out
      · have e3 : (kind == 3) = false := beq_eq_false_iff_ne.2 h3
        have HN := Aside0.mk (R_none (d := kIt) (e := 151) (base := w.heap.size) (ok := okT) (blk_new w (.cells #[] 151)) (Nat.le_refl _) trivial)
        have e4 : lwSum s kind = [] := by unfold lwSum; rw [if_neg h1, if_neg h2, if_neg h3]
        have E4 := Aside0.mk e4
        clear e4
        have HB := Aside0.mk (Below.refl w.heap.size w)
        go_enter Try.func92, Try.ntmps92
        go_wp2
        go_ret
        exact RetR.mk (by rw [E4.out]; exact HN.out) (below_alloc HB.out _)
end Go.Proofs.Ythljcnlmeefcjaa.X

