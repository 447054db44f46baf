/- The walks of the functions on collections: the union, the negation, values of pairs. Conditions: none. -/
import Derived.Test.YtdppnipodndcpaaXMg
import Derived.Test.YtdppnipodndcpaaXLb
namespace Go.Proofs.Ytdppnipodndcpaa.X
open Go.RowKit Go.Proofs.YtdppnipodndcpaaW.PrintWords
set_option linter.unusedVariables false
set_option linter.unusedSimpArgs false

theorem wf_of {a : Int} (h0 : -9223372036854775808 ≤ a) (h1 : a ≤ 9223372036854775807) : wfI a := (wfI_iff a).2 (by omega)
theorem sOk_of {l : List It} (h : setOk l = true) : ∀ x ∈ l, 0 ≤ x.f0 ∧ x.f0 ≤ 3 ∧ 0 ≤ x.f1 ∧ x.f1 ≤ 99 ∧ x.f2 ≠ 0 ∧ -1099511627776 ≤ x.f2 ∧ x.f2 ≤ 1099511627776 := fun x hx => by
  obtain ⟨h1, h2, h3⟩ := setOk_canon h
  have := h2 x hx
  have := h1.2 x hx
  unfold keyOk at *
  omega
theorem setOk_len {l : List It} (h : setOk l = true) : l.length ≤ 400 := (setOk_canon h).2.2
theorem setOk_fit {l : List It} (h : setOk l = true) : ∀ x ∈ l, wfI x.f0 ∧ wfI x.f1 ∧ wfI x.f2 := fun x hx => by
  have := sOk_of h x hx
  exact ⟨wf_of (by omega) (by omega), wf_of (by omega) (by omega), wf_of (by omega) (by omega)⟩
set_option maxRecDepth 100000 in
set_option maxHeartbeats 400000 in
theorem impl_joinedVal (a b : Int) (w : World) : Calls Try.prog 118 #[.int .i64 a, .int .i64 b] w (fun e w' => e = .returned (.int .i64 (jval a b)) ∧ w = w') := by
  go_enter Try.func118, Try.ntmps118
  go_wp2
  go_ret
  exact ⟨rfl, rfl⟩
set_option maxRecDepth 100000 in
set_option maxHeartbeats 400000 in
theorem spec_l3Pair (a b : Int) (w : World) : Calls Try.prog 119 #[.int .i64 a, .int .i64 b] w (fun e w' => e = .returned (.int .i64 (jval a b)) ∧ w = w') := by
  go_enter Try.func119, Try.ntmps119
  go_wp2
  go_ret
  exact ⟨by unfold jval; rw [Int.mul_comm]; rfl, rfl⟩
set_option maxRecDepth 100000 in
set_option maxHeartbeats 2000000 in
theorem impl_SetBoth (v v2 : Value) (s t : List It) (w : World) (h : Sl kIt w v s) (h2 : Sl kIt w v2 t) : Calls Try.prog 63 #[v, v2] w (RetR kIt 90 w (setBoth s t)) := by
  have HS := Aside0.mk h
  have HT := Aside0.mk h2
  obtain ⟨A, c_, rfl, HC, hr⟩ := h
  have hm := Kd.C_max hr
  have HR := Aside0.mk hr
  clear hr
  obtain ⟨A2, c2_, rfl, HC2, hr2⟩ := h2
  have hm2 := Kd.C_max hr2
  have HR2 := Aside0.mk hr2
  clear hr2
  cases hs : setOk s
  · have HB := Aside0.mk (Below.refl w.heap.size w)
    go_enter Try.func63, Try.ntmps63
    go_wp2_with (go_at_call 58; ((with_reducible refine (impl_SetOk _ s _ HS.out).mono ?_); rintro e w' ⟨rfl, hb⟩; replace HB := Aside0.mk (bthen HB.out hb); clear hb))
    go_ret
    exact RetR.mk (by rw [setBoth, hs]; exact Kd.R_nil _ _ _ _ _) HB.out
  · cases ht : setOk t
    · have HB := Aside0.mk (Below.refl w.heap.size w)
      go_enter Try.func63, Try.ntmps63
      go_wp2_with (first | (go_at_call 58; ((with_reducible refine (impl_SetOk (.slice A s.length c_) s _ (HS.out.below HB.out)).mono ?_); rintro e w' ⟨rfl, hb⟩; replace HB := Aside0.mk (bthen HB.out hb); clear hb)) | (go_at_call 58; ((with_reducible refine (impl_SetOk _ t _ (HT.out.below HB.out)).mono ?_); rintro e w' ⟨rfl, hb⟩; replace HB := Aside0.mk (bthen HB.out hb); clear hb)))
      go_ret
      exact RetR.mk (by rw [setBoth, hs, ht]; exact Kd.R_nil _ _ _ _ _) HB.out
    · have hl1 := setOk_len hs
      have hl2 := setOk_len ht
      have hfit : Aside0 (∀ x ∈ s ++ t, wfI x.f0 ∧ wfI x.f1 ∧ wfI x.f2) := ⟨fun x hx => (List.mem_append.1 hx).elim (setOk_fit hs x) (setOk_fit ht x)⟩
      have HB := Aside0.mk (Below.refl w.heap.size w)
      go_enter Try.func63, Try.ntmps63
      go_wp2_with (first
        | (go_at_call 58; ((with_reducible refine (impl_SetOk (.slice A s.length c_) s _ (HS.out.below HB.out)).mono ?_); rintro e w' ⟨rfl, hb⟩; replace HB := Aside0.mk (bthen HB.out hb); clear hb))
        | (go_at_call 58; ((with_reducible refine (impl_SetOk (.slice A2 t.length c2_) t _ (HT.out.below HB.out)).mono ?_); rintro e wb ⟨rfl, hb⟩; replace HB := Aside0.mk (bthen HB.out hb); (have HN := Aside0.mk (R_none (d := kIt) (e := 90) (base := w.heap.size) (ok := okT) (blk_new wb (.cells #[] 90)) HB.out.size trivial); replace HB := Aside0.mk (below_alloc HB.out (.cells #[] 90))); clear hb))
        | (at_builtin; refine appsIt (w0 := w) (base := w.heap.size) (xs := []) (ys := s) (ok := okT) rfl rfl (HS.out.below HB.out) HN.out (fun _ _ => trivial) HB.out HB.out.size (by first | omega | (simp; omega)) ?_; intro v1 w' hr1 hb1 hg1 ha1; have HN1 := Aside0.mk hr1; replace HB := Aside0.mk hb1; clear hr1 hb1 hg1 ha1)
        | (at_builtin; refine appsIt (w0 := w) (base := w.heap.size) (xs := [] ++ s) (ys := t) (ok := okT) rfl rfl (HT.out.below HB.out) HN1.out (fun _ _ => trivial) HB.out HB.out.size (by first | omega | (simp; omega)) ?_; intro v2 w' hr1 hb1 hg1 ha1; have HN2 := Aside0.mk hr1; replace HB := Aside0.mk hb1; clear hr1 hb1 hg1 ha1)
        | (go_at_call 110; ((with_reducible refine (impl_gathered _ (s ++ t) _ (Sl.of_R HN2.out) hfit.out (by simp; omega)).mono ?_); rintro e w' ⟨u, rfl, hr, hb⟩; have HF := Aside0.mk (Kd.R_lower hr HB.out.size); replace HB := Aside0.mk (bthen HB.out hb); clear hr hb)))
      go_ret
      exact RetR.mk (by rw [setBoth, hs, ht]; exact HF.out) HB.out
end Go.Proofs.Ytdppnipodndcpaa.X
