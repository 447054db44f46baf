/- The walk of the law on the keys of pairs. Conditions: none. -/
import Derived.Test.YtdppnipodndcpaaXDrSet
import Derived.Test.YtdppnipodndcpaaXLw
import Derived.Test.YtdppnipodndcpaaXPlS
import Derived.Test.YtdppnipodndcpaaXBytes
namespace Go.Proofs.Ytdppnipodndcpaa.X
open Go.RowKit Go.Proofs.YtdppnipodndcpaaW.PrintWords
set_option linter.unusedVariables false
set_option linter.unusedSimpArgs false

set_option maxRecDepth 100000 in
set_option maxHeartbeats 4000000 in
theorem laws_FnSetJoinKeys (v : Value) (l : List Int) (w : World) (h : IsBytes w v l) : Calls Try.prog 12 #[v] w (RetV w (.bool true)) := by
  have H := Aside0.mk h
  obtain ⟨⟨A, c, rfl, hc, hr⟩, hb⟩ := h
  have hm := Kd.C_max hr
  clear hr hb
  have HB := Aside0.mk (Below.refl w.heap.size w)
  go_enter Try.func12, Try.ntmps12
  by_cases hl : 1048576 < l.length
  · have hl' : (l.length : Int) > 1048576 := by omega
    go_wp2
    go_ret
    exact RetV.mk rfl HB.out
  have hl' : ¬ (l.length : Int) > 1048576 := by omega
  go_upto_region 4 with (go_at_call 59; ((with_reducible refine (spec_DrawSetJoin (.slice A l.length c) l w H.out.sl H.out.by_).mono ?_); rintro e wa ⟨vs, vt, s, t, rfl, h1, h2, h3, h4, h5⟩; have HS := Aside0.mk h1; have HT := Aside0.mk h2; replace HB := Aside0.mk h5; clear h1 h2 h3 h4 h5))
  have q0 : decide (setJoin s t = setJoin s t) = true := decide_eq_true rfl
  have HK := Aside0.mk (@setJoin_keys s t)
  go_upto_region 7 with (first
    | (go_at_call 60; ((with_reducible refine (impl_SetJoin vs vt s t _ HS.out HT.out).mono ?_); rintro e w' ⟨vx, rfl, hr, hb⟩; (try replace HS := Aside0.mk (HS.out.below hb)); (try replace HT := Aside0.mk (HT.out.below hb)); (try replace HX := Aside0.mk (HX.out.below hb)); (try replace HY := Aside0.mk (HY.out.below hb)); replace HB := Aside0.mk (bthen HB.out hb); have HX := Aside0.mk (Sl.of_R hr); clear hr hb))
    | (go_at_call 61; ((with_reducible refine (spec_SetJoin vs vt s t _ HS.out HT.out).mono ?_); rintro e w' ⟨vy, rfl, hr, hb⟩; (try replace HS := Aside0.mk (HS.out.below hb)); (try replace HT := Aside0.mk (HT.out.below hb)); (try replace HX := Aside0.mk (HX.out.below hb)); (try replace HY := Aside0.mk (HY.out.below hb)); replace HB := Aside0.mk (bthen HB.out hb); have HY := Aside0.mk (Sl.of_R hr); clear hr hb))
    | (go_at_call 54; ((with_reducible refine (laws_lwItems vx vy (setJoin s t) (setJoin s t) _ HX.out HY.out).mono ?_); rintro e w' ⟨rfl, hb⟩; (try replace HS := Aside0.mk (HS.out.below hb)); (try replace HT := Aside0.mk (HT.out.below hb)); (try replace HX := Aside0.mk (HX.out.below hb)); (try replace HY := Aside0.mk (HY.out.below hb)); replace HB := Aside0.mk (bthen HB.out hb); clear hb)))
  obtain ⟨A3, c3, rfl, hc3, hC3⟩ := HX.out
  have HR3 := Aside0.mk hC3
  have hm3 := Kd.C_max hC3
  clear hC3 HX HY
  generalize setJoin s t = x at *
  have HB0 := HB
  go_wp2
  go_loopw [6] (fun i wr => ∃ k : Nat, k ≤ x.length ∧ i = .int .i64 k ∧ Aside0 (Below w'.heap.size w' wr)) (fun i _ => x.length - (intOf i).toNat)
  case atStart => exact ⟨0, Nat.zero_le _, rfl, ⟨Below.refl _ _⟩⟩
  case round =>
    clear HB
    obtain ⟨k, hk, rfl, HB⟩ := hrel
    by_cases hlt : k < x.length
    · obtain ⟨ad, y, e, HY, h0, h1, h2⟩ := rdIt HR3.out HB.out hlt
      cases e
      have hy := HK.out y (List.mem_of_getElem? HY.out)
      obtain ⟨k1, k2⟩ := hy
      have h0' := h0
      go_wp2_with (first
        | (go_at_call 64; ((with_reducible refine (laws_lwKey vs s y.f0 _ (HS.out.below HB.out)).mono ?_); rintro e w' ⟨rfl, hb⟩; replace HB := Aside0.mk (bthen HB.out hb); replace h0 := pw_cell_below hb h0; clear hb))
        | (go_at_call 64; ((with_reducible refine (laws_lwKey vt t y.f0 _ (HT.out.below HB.out)).mono ?_); rintro e w' ⟨rfl, hb⟩; replace HB := Aside0.mk (bthen HB.out hb); clear hb)))
      go_roundw
      case rel => exact ⟨k + 1, by omega, by go_num, HB⟩
      case measure => simp [intOf]; omega
    · replace HS := Aside0.mk (HS.out.below HB.out)
      replace HT := Aside0.mk (HT.out.below HB.out)
      replace HB := Aside0.mk (bthen HB0.out HB.out)
      clear HB0
      have n1 := setJoin_nil s
      have n2 := setJoin_nil2 t
      go_wp2_with (first
        | (go_at_call 60; ((with_reducible refine (impl_SetJoin vs (.slice none 0 0) s [] _ HS.out (Sl.nil _ _)).mono ?_); rintro e w' ⟨va, rfl, hr, hb⟩; rw [setJoin_nil] at hr; obtain ⟨A5, c5, rfl, _, _⟩ := Sl.of_R hr; (try replace HS := Aside0.mk (HS.out.below hb)); (try replace HT := Aside0.mk (HT.out.below hb)); replace HB := Aside0.mk (bthen HB.out hb); clear hr hb))
        | (go_at_call 60; ((with_reducible refine (impl_SetJoin (.slice none 0 0) vt [] t _ (Sl.nil _ _) HT.out).mono ?_); rintro e w' ⟨va, rfl, hr, hb⟩; rw [setJoin_nil2] at hr; obtain ⟨A6, c6, rfl, _, _⟩ := Sl.of_R hr; (try replace HS := Aside0.mk (HS.out.below hb)); (try replace HT := Aside0.mk (HT.out.below hb)); replace HB := Aside0.mk (bthen HB.out hb); clear hr hb)))
      go_ret
      exact RetV.mk rfl HB.out
end Go.Proofs.Ytdppnipodndcpaa.X
