/- The walks of the laws on collections that are mapped, filtered, summed up, taken away. Conditions: none. -/
import Derived.Test.YtbbkimgadohdkaaXDrSet2
import Derived.Test.YtbbkimgadohdkaaXSt5
import Derived.Test.YtbbkimgadohdkaaXLw
import Derived.Test.YtbbkimgadohdkaaXPlS2
import Derived.Test.YtbbkimgadohdkaaXBytes
namespace Go.Proofs.Ytbbkimgadohdkaa.X
open Go.RowKit Go.Proofs.YtbbkimgadohdkaaW.PrintWords
set_option linter.unusedVariables false
set_option linter.unusedSimpArgs false

set_option maxRecDepth 100000 in
set_option maxHeartbeats 4000000 in
theorem laws_FnSetSwap (v : Value) (l : List Int) (w : World) (h : IsBytes w v l) : Calls Try.prog 5 #[v] w (RetV w (.bool true)) := by
  have H := Aside0.mk h
  obtain ⟨⟨A, c, rfl, hc, hr⟩, hb⟩ := h
  have hm := Kd.C_max hr
  clear hr hb
  have HB := Aside0.mk (Below.refl w.heap.size w)
  go_enter Try.func5, Try.ntmps5
  by_cases hl : 1048576 < l.length
  · have hl' : (l.length : Int) > 1048576 := by omega
    go_wp2
    go_ret
    exact RetV.mk rfl HB.out
  have hl' : ¬ (l.length : Int) > 1048576 := by omega
  go_upto_region 4 with (go_at_call 25; ((with_reducible refine (spec_DrawSetEach (.slice A l.length c) l w H.out.sl H.out.by_).mono ?_); rintro e wa ⟨vs, s, how, rfl, h1, h2, h3, h5⟩; have HS := Aside0.mk h1; have DS := Aside0.mk h2; replace HB := Aside0.mk h5; clear h1 h2 h3 h5))
  obtain ⟨ms, ls⟩ := DS.out
  have q0 : decide (setEach s how = setEach s how) = true := decide_eq_true rfl
  cases hs : setOk s
  · go_wp2_with (first
      | (go_at_call 26; ((with_reducible refine (impl_SetEach vs s how _ HS.out).mono ?_); rintro e w' ⟨vx, rfl, hr, hb⟩; (try replace HS := Aside0.mk (HS.out.below hb)); (try replace HX := Aside0.mk (HX.out.below hb)); (try replace HY := Aside0.mk (HY.out.below hb)); replace HB := Aside0.mk (bthen HB.out hb); have HX := Aside0.mk (Sl.of_R hr); clear hr hb))
      | (go_at_call 27; ((with_reducible refine (spec_SetEach vs s how _ HS.out).mono ?_); rintro e w' ⟨vy, rfl, hr, hb⟩; (try replace HS := Aside0.mk (HS.out.below hb)); (try replace HX := Aside0.mk (HX.out.below hb)); (try replace HY := Aside0.mk (HY.out.below hb)); replace HB := Aside0.mk (bthen HB.out hb); have HY := Aside0.mk (Sl.of_R hr); clear hr hb))
      | (go_at_call 16; ((with_reducible refine (laws_lwItems vx vy (setEach s how) (setEach s how) _ HX.out HY.out).mono ?_); rintro e w' ⟨rfl, hb⟩; (try replace HS := Aside0.mk (HS.out.below hb)); (try replace HX := Aside0.mk (HX.out.below hb)); (try replace HY := Aside0.mk (HY.out.below hb)); replace HB := Aside0.mk (bthen HB.out hb); clear hb))
      | (go_at_call 18; ((with_reducible refine (spec_SetOk vs s _ HS.out).mono ?_); rintro e w' ⟨rfl, hb⟩; (try replace HS := Aside0.mk (HS.out.below hb)); (try replace HX := Aside0.mk (HX.out.below hb)); (try replace HY := Aside0.mk (HY.out.below hb)); replace HB := Aside0.mk (bthen HB.out hb); clear hb)))
    go_ret
    exact RetV.mk rfl HB.out
  · have q1 := decide_eq_true (setEach_swap hs ms ls)
    go_wp2_with (first
      | (go_at_call 26; ((with_reducible refine (impl_SetEach vs s how _ HS.out).mono ?_); rintro e w' ⟨vx, rfl, hr, hb⟩; (try replace HS := Aside0.mk (HS.out.below hb)); (try replace HX := Aside0.mk (HX.out.below hb)); (try replace HY := Aside0.mk (HY.out.below hb)); (try replace HA := Aside0.mk (HA.out.below hb)); (try replace HC := Aside0.mk (HC.out.below hb)); replace HB := Aside0.mk (bthen HB.out hb); have HX := Aside0.mk (Sl.of_R hr); clear hr hb))
      | (go_at_call 27; ((with_reducible refine (spec_SetEach vs s how _ HS.out).mono ?_); rintro e w' ⟨vy, rfl, hr, hb⟩; (try replace HS := Aside0.mk (HS.out.below hb)); (try replace HX := Aside0.mk (HX.out.below hb)); (try replace HY := Aside0.mk (HY.out.below hb)); (try replace HA := Aside0.mk (HA.out.below hb)); (try replace HC := Aside0.mk (HC.out.below hb)); replace HB := Aside0.mk (bthen HB.out hb); have HY := Aside0.mk (Sl.of_R hr); clear hr hb))
      | (go_at_call 16; ((with_reducible refine (laws_lwItems vx vy (setEach s how) (setEach s how) _ HX.out HY.out).mono ?_); rintro e w' ⟨rfl, hb⟩; (try replace HS := Aside0.mk (HS.out.below hb)); (try replace HX := Aside0.mk (HX.out.below hb)); (try replace HY := Aside0.mk (HY.out.below hb)); (try replace HA := Aside0.mk (HA.out.below hb)); (try replace HC := Aside0.mk (HC.out.below hb)); replace HB := Aside0.mk (bthen HB.out hb); clear hb))
      | (go_at_call 18; ((with_reducible refine (spec_SetOk vs s _ HS.out).mono ?_); rintro e w' ⟨rfl, hb⟩; (try replace HS := Aside0.mk (HS.out.below hb)); (try replace HX := Aside0.mk (HX.out.below hb)); (try replace HY := Aside0.mk (HY.out.below hb)); (try replace HA := Aside0.mk (HA.out.below hb)); (try replace HC := Aside0.mk (HC.out.below hb)); replace HB := Aside0.mk (bthen HB.out hb); clear hb))
      | (go_at_call 26; ((with_reducible refine (impl_SetEach vs s 1 _ HS.out).mono ?_); rintro e w' ⟨va, rfl, hr, hb⟩; (try replace HS := Aside0.mk (HS.out.below hb)); (try replace HX := Aside0.mk (HX.out.below hb)); (try replace HY := Aside0.mk (HY.out.below hb)); (try replace HA := Aside0.mk (HA.out.below hb)); (try replace HC := Aside0.mk (HC.out.below hb)); replace HB := Aside0.mk (bthen HB.out hb); have HA := Aside0.mk (Sl.of_R hr); clear hr hb))
      | (go_at_call 26; ((with_reducible refine (impl_SetEach va (setEach s 1) 1 _ HA.out).mono ?_); rintro e w' ⟨vb, rfl, hr, hb⟩; (try replace HS := Aside0.mk (HS.out.below hb)); (try replace HX := Aside0.mk (HX.out.below hb)); (try replace HY := Aside0.mk (HY.out.below hb)); (try replace HA := Aside0.mk (HA.out.below hb)); (try replace HC := Aside0.mk (HC.out.below hb)); replace HB := Aside0.mk (bthen HB.out hb); have HC := Aside0.mk (Sl.of_R hr); clear hr hb))
      | (go_at_call 16; ((with_reducible refine (laws_lwItems vb vs (setEach (setEach s 1) 1) s _ HC.out HS.out).mono ?_); rintro e w' ⟨rfl, hb⟩; (try replace HS := Aside0.mk (HS.out.below hb)); (try replace HX := Aside0.mk (HX.out.below hb)); (try replace HY := Aside0.mk (HY.out.below hb)); (try replace HA := Aside0.mk (HA.out.below hb)); (try replace HC := Aside0.mk (HC.out.below hb)); replace HB := Aside0.mk (bthen HB.out hb); clear hb)))
    go_ret
    exact RetV.mk rfl HB.out
set_option maxRecDepth 100000 in
set_option maxHeartbeats 4000000 in
theorem laws_FnSetKeep (v v2 : Value) (l m : List Int) (w : World) (h : IsBytes w v l) (h2 : IsBytes w v2 m) : Calls Try.prog 8 #[v, v2] w (RetV w (.bool true)) := by
  have H := Aside0.mk h
  obtain ⟨⟨A, c, rfl, hc, hr⟩, hb⟩ := h
  have hm := Kd.C_max hr
  clear hr hb
  have H2 := Aside0.mk h2
  obtain ⟨⟨A2, c2, rfl, hc2, hr2⟩, hb2⟩ := h2
  have hm2 := Kd.C_max hr2
  clear hr2 hb2
  have HB := Aside0.mk (Below.refl w.heap.size w)
  go_enter Try.func8, Try.ntmps8
  by_cases hl : 1048576 < l.length
  · have hl' : (l.length : Int) > 1048576 := by omega
    go_wp2
    go_ret
    exact RetV.mk rfl HB.out
  have hl' : ¬ (l.length : Int) > 1048576 := by omega
  by_cases hl2 : 1048576 < m.length
  · have hl2' : (m.length : Int) > 1048576 := by omega
    go_wp2
    go_ret
    exact RetV.mk rfl HB.out
  have hl2' : ¬ (m.length : Int) > 1048576 := by omega
  go_upto_region 4 with (go_at_call 25; ((with_reducible refine (spec_DrawSetEach (.slice A l.length c) l w H.out.sl H.out.by_).mono ?_); rintro e wa ⟨vs, s, how, rfl, h1, h2, h3, h5⟩; have HS := Aside0.mk h1; have DS := Aside0.mk h2; replace HB := Aside0.mk h5; clear h1 h2 h3 h5))
  obtain ⟨ms, ls⟩ := DS.out
  have q0 : decide (setEach s how = setEach s how) = true := decide_eq_true rfl
  cases hs : setOk s
  · go_wp2_with (first
      | (go_at_call 26; ((with_reducible refine (impl_SetEach vs s how _ HS.out).mono ?_); rintro e w' ⟨vx, rfl, hr, hb⟩; (try replace HS := Aside0.mk (HS.out.below hb)); (try replace HX := Aside0.mk (HX.out.below hb)); (try replace HY := Aside0.mk (HY.out.below hb)); replace HB := Aside0.mk (bthen HB.out hb); have HX := Aside0.mk (Sl.of_R hr); clear hr hb))
      | (go_at_call 27; ((with_reducible refine (spec_SetEach vs s how _ HS.out).mono ?_); rintro e w' ⟨vy, rfl, hr, hb⟩; (try replace HS := Aside0.mk (HS.out.below hb)); (try replace HX := Aside0.mk (HX.out.below hb)); (try replace HY := Aside0.mk (HY.out.below hb)); replace HB := Aside0.mk (bthen HB.out hb); have HY := Aside0.mk (Sl.of_R hr); clear hr hb))
      | (go_at_call 16; ((with_reducible refine (laws_lwItems vx vy (setEach s how) (setEach s how) _ HX.out HY.out).mono ?_); rintro e w' ⟨rfl, hb⟩; (try replace HS := Aside0.mk (HS.out.below hb)); (try replace HX := Aside0.mk (HX.out.below hb)); (try replace HY := Aside0.mk (HY.out.below hb)); replace HB := Aside0.mk (bthen HB.out hb); clear hb))
      | (go_at_call 18; ((with_reducible refine (spec_SetOk vs s _ HS.out).mono ?_); rintro e w' ⟨rfl, hb⟩; (try replace HS := Aside0.mk (HS.out.below hb)); (try replace HX := Aside0.mk (HX.out.below hb)); (try replace HY := Aside0.mk (HY.out.below hb)); replace HB := Aside0.mk (bthen HB.out hb); clear hb)))
    go_ret
    exact RetV.mk rfl HB.out
  · obtain ⟨n, hn⟩ : ∃ n : Int, n = 5 + (m.length : Int) % 3 := ⟨_, rfl⟩
    obtain ⟨k1, k2⟩ := setEach_kept (how := n) hs (by omega) (by omega)
    have K1 := Aside0.mk k1
    have q1 := decide_eq_true k2
    have hn0 : 5 ≤ n ∧ n ≤ 7 := by omega
    clear k1 k2
    go_upto_region 7 with (first
      | (go_at_call 26; ((with_reducible refine (impl_SetEach vs s how _ HS.out).mono ?_); rintro e w' ⟨vx, rfl, hr, hb⟩; (try replace HS := Aside0.mk (HS.out.below hb)); (try replace HX := Aside0.mk (HX.out.below hb)); (try replace HY := Aside0.mk (HY.out.below hb)); replace HB := Aside0.mk (bthen HB.out hb); have HX := Aside0.mk (Sl.of_R hr); clear hr hb))
      | (go_at_call 27; ((with_reducible refine (spec_SetEach vs s how _ HS.out).mono ?_); rintro e w' ⟨vy, rfl, hr, hb⟩; (try replace HS := Aside0.mk (HS.out.below hb)); (try replace HX := Aside0.mk (HX.out.below hb)); (try replace HY := Aside0.mk (HY.out.below hb)); replace HB := Aside0.mk (bthen HB.out hb); have HY := Aside0.mk (Sl.of_R hr); clear hr hb))
      | (go_at_call 16; ((with_reducible refine (laws_lwItems vx vy (setEach s how) (setEach s how) _ HX.out HY.out).mono ?_); rintro e w' ⟨rfl, hb⟩; (try replace HS := Aside0.mk (HS.out.below hb)); (try replace HX := Aside0.mk (HX.out.below hb)); (try replace HY := Aside0.mk (HY.out.below hb)); replace HB := Aside0.mk (bthen HB.out hb); clear hb))
      | (go_at_call 18; ((with_reducible refine (spec_SetOk vs s _ HS.out).mono ?_); rintro e w' ⟨rfl, hb⟩; (try replace HS := Aside0.mk (HS.out.below hb)); (try replace HX := Aside0.mk (HX.out.below hb)); (try replace HY := Aside0.mk (HY.out.below hb)); replace HB := Aside0.mk (bthen HB.out hb); clear hb)))
    rw [← hn]
    clear hn
    go_upto_region 8 with (first
      | (go_at_call 26; ((with_reducible refine (impl_SetEach vs s n _ HS.out).mono ?_); rintro e w' ⟨va, rfl, hr, hb⟩; (try replace HS := Aside0.mk (HS.out.below hb)); (try replace HA := Aside0.mk (HA.out.below hb)); replace HB := Aside0.mk (bthen HB.out hb); have HA := Aside0.mk (Sl.of_R hr); clear hr hb)))
    obtain ⟨A3, c3, rfl, hc3, hC3⟩ := HA.out
    have HR3 := Aside0.mk hC3
    have hm3 := Kd.C_max hC3
    clear hC3
    generalize hx : setEach s n = x at *
    clear hx
    have HB0 := HB
    go_wp2
    go_loopw [9] (fun i wr => ∃ k : Nat, k ≤ x.length ∧ i = .int .i64 k ∧ Aside0 (Below w'.heap.size w' wr)) (fun i _ => x.length - (intOf i).toNat)
    case atStart => exact ⟨0, Nat.zero_le _, rfl, ⟨Below.refl _ _⟩⟩
    case round =>
      clear HB
      obtain ⟨k, hk, rfl, HB⟩ := hrel
      by_cases hlt : k < x.length
      · obtain ⟨ad, y, e, HY, h0, h1, h2⟩ := rdIt HR3.out HB.out hlt
        cases e
        have hy := decide_eq_true (K1.out y (List.mem_of_getElem? HY.out))
        go_wp2_with (go_at_call 35; ((with_reducible refine (laws_lwHas vs s y _ (HS.out.below HB.out)).mono ?_); rintro e w' ⟨rfl, hb⟩; replace HB := Aside0.mk (bthen HB.out hb); clear hb))
        go_roundw
        case rel => exact ⟨k + 1, by omega, by go_num, HB⟩
        case measure => simp [intOf]; omega
      · replace HA := Aside0.mk (HA.out.below HB.out)
        replace HB := Aside0.mk (bthen HB0.out HB.out)
        clear HB0
        go_wp2_with (first
          | (go_at_call 26; ((with_reducible refine (impl_SetEach (.slice A3 x.length c3) x n _ HA.out).mono ?_); rintro e w' ⟨vb, rfl, hr, hb⟩; (try replace HA := Aside0.mk (HA.out.below hb)); (try replace HC := Aside0.mk (HC.out.below hb)); replace HB := Aside0.mk (bthen HB.out hb); have HC := Aside0.mk (Sl.of_R hr); clear hr hb))
          | (go_at_call 16; ((with_reducible refine (laws_lwItems vb (.slice A3 x.length c3) (setEach x n) x _ HC.out HA.out).mono ?_); rintro e w' ⟨rfl, hb⟩; (try replace HA := Aside0.mk (HA.out.below hb)); (try replace HC := Aside0.mk (HC.out.below hb)); replace HB := Aside0.mk (bthen HB.out hb); clear hb)))
        go_ret
        exact RetV.mk rfl HB.out
set_option maxRecDepth 100000 in
set_option maxHeartbeats 4000000 in
theorem laws_FnSetEach (v v2 : Value) (l m : List Int) (w : World) (h : IsBytes w v l) (h2 : IsBytes w v2 m) : Calls Try.prog 6 #[v, v2] w (RetV w (.bool true)) := by
  have H := Aside0.mk h
  obtain ⟨⟨A, c, rfl, hc, hr⟩, hb⟩ := h
  have hm := Kd.C_max hr
  clear hr hb
  have H2 := Aside0.mk h2
  obtain ⟨⟨A2, c2, rfl, hc2, hr2⟩, hb2⟩ := h2
  have hm2 := Kd.C_max hr2
  clear hr2 hb2
  have HB := Aside0.mk (Below.refl w.heap.size w)
  go_enter Try.func6, Try.ntmps6
  by_cases hl : 1048576 < l.length
  · have hl' : (l.length : Int) > 1048576 := by omega
    go_wp2
    go_ret
    exact RetV.mk rfl HB.out
  have hl' : ¬ (l.length : Int) > 1048576 := by omega
  by_cases hl2 : 1048576 < m.length
  · have hl2' : (m.length : Int) > 1048576 := by omega
    go_wp2
    go_ret
    exact RetV.mk rfl HB.out
  have hl2' : ¬ (m.length : Int) > 1048576 := by omega
  go_upto_region 5 with (go_at_call 28; ((with_reducible refine (spec_DrawSetBoth (.slice A l.length c) l w H.out.sl H.out.by_).mono ?_); rintro e wa ⟨vs, vt, s, t, rfl, h1, h2, h3, h4, h5⟩; have HS := Aside0.mk h1; have HT := Aside0.mk h2; have DS := Aside0.mk h3; have DT := Aside0.mk h4; replace HB := Aside0.mk h5; clear h1 h2 h3 h4 h5))
  obtain ⟨ms, ls⟩ := DS.out
  obtain ⟨mt, lt⟩ := DT.out
  obtain ⟨n, hn⟩ : ∃ n : Int, n = 1 + (m.length : Int) % 7 := ⟨_, rfl⟩
  have hn0 : 1 ≤ n ∧ n ≤ 7 := by omega
  rw [← hn]
  clear hn
  have q0 : decide (setEach s n = setEach s n) = true := decide_eq_true rfl
  by_cases hgo : setOk s = true ∧ setOk t = true
  · obtain ⟨hs, ht⟩ := hgo
    have q1 := decide_eq_true (setEach_both hs ht ms mt ls lt hn0.1 hn0.2)
    go_wp2_with (first
      | (go_at_call 26; ((with_reducible refine (impl_SetEach vs s n _ HS.out).mono ?_); rintro e w' ⟨vx, rfl, hr, hb⟩; (try replace HS := Aside0.mk (HS.out.below hb)); (try replace HT := Aside0.mk (HT.out.below hb)); (try replace HX := Aside0.mk (HX.out.below hb)); (try replace HY := Aside0.mk (HY.out.below hb)); (try replace HA := Aside0.mk (HA.out.below hb)); (try replace HC := Aside0.mk (HC.out.below hb)); (try replace HD := Aside0.mk (HD.out.below hb)); (try replace HE := Aside0.mk (HE.out.below hb)); replace HB := Aside0.mk (bthen HB.out hb); have HX := Aside0.mk (Sl.of_R hr); clear hr hb))
      | (go_at_call 27; ((with_reducible refine (spec_SetEach vs s n _ HS.out).mono ?_); rintro e w' ⟨vy, rfl, hr, hb⟩; (try replace HS := Aside0.mk (HS.out.below hb)); (try replace HT := Aside0.mk (HT.out.below hb)); (try replace HX := Aside0.mk (HX.out.below hb)); (try replace HY := Aside0.mk (HY.out.below hb)); (try replace HA := Aside0.mk (HA.out.below hb)); (try replace HC := Aside0.mk (HC.out.below hb)); (try replace HD := Aside0.mk (HD.out.below hb)); (try replace HE := Aside0.mk (HE.out.below hb)); replace HB := Aside0.mk (bthen HB.out hb); have HY := Aside0.mk (Sl.of_R hr); clear hr hb))
      | (go_at_call 16; ((with_reducible refine (laws_lwItems vx vy (setEach s n) (setEach s n) _ HX.out HY.out).mono ?_); rintro e w' ⟨rfl, hb⟩; (try replace HS := Aside0.mk (HS.out.below hb)); (try replace HT := Aside0.mk (HT.out.below hb)); (try replace HX := Aside0.mk (HX.out.below hb)); (try replace HY := Aside0.mk (HY.out.below hb)); (try replace HA := Aside0.mk (HA.out.below hb)); (try replace HC := Aside0.mk (HC.out.below hb)); (try replace HD := Aside0.mk (HD.out.below hb)); (try replace HE := Aside0.mk (HE.out.below hb)); replace HB := Aside0.mk (bthen HB.out hb); clear hb))
      | (go_at_call 18; ((with_reducible refine (spec_SetOk vs s _ HS.out).mono ?_); rintro e w' ⟨rfl, hb⟩; (try replace HS := Aside0.mk (HS.out.below hb)); (try replace HT := Aside0.mk (HT.out.below hb)); (try replace HX := Aside0.mk (HX.out.below hb)); (try replace HY := Aside0.mk (HY.out.below hb)); (try replace HA := Aside0.mk (HA.out.below hb)); (try replace HC := Aside0.mk (HC.out.below hb)); (try replace HD := Aside0.mk (HD.out.below hb)); (try replace HE := Aside0.mk (HE.out.below hb)); replace HB := Aside0.mk (bthen HB.out hb); clear hb))
      | (go_at_call 18; ((with_reducible refine (spec_SetOk vt t _ HT.out).mono ?_); rintro e w' ⟨rfl, hb⟩; (try replace HS := Aside0.mk (HS.out.below hb)); (try replace HT := Aside0.mk (HT.out.below hb)); (try replace HX := Aside0.mk (HX.out.below hb)); (try replace HY := Aside0.mk (HY.out.below hb)); (try replace HA := Aside0.mk (HA.out.below hb)); (try replace HC := Aside0.mk (HC.out.below hb)); (try replace HD := Aside0.mk (HD.out.below hb)); (try replace HE := Aside0.mk (HE.out.below hb)); replace HB := Aside0.mk (bthen HB.out hb); clear hb))
      | (go_at_call 23; ((with_reducible refine (impl_SetBoth vs vt s t _ HS.out HT.out).mono ?_); rintro e w' ⟨va, rfl, hr, hb⟩; (try replace HS := Aside0.mk (HS.out.below hb)); (try replace HT := Aside0.mk (HT.out.below hb)); (try replace HX := Aside0.mk (HX.out.below hb)); (try replace HY := Aside0.mk (HY.out.below hb)); (try replace HA := Aside0.mk (HA.out.below hb)); (try replace HC := Aside0.mk (HC.out.below hb)); (try replace HD := Aside0.mk (HD.out.below hb)); (try replace HE := Aside0.mk (HE.out.below hb)); replace HB := Aside0.mk (bthen HB.out hb); have HA := Aside0.mk (Sl.of_R hr); clear hr hb))
      | (go_at_call 26; ((with_reducible refine (impl_SetEach va (setBoth s t) n _ HA.out).mono ?_); rintro e w' ⟨vb, rfl, hr, hb⟩; (try replace HS := Aside0.mk (HS.out.below hb)); (try replace HT := Aside0.mk (HT.out.below hb)); (try replace HX := Aside0.mk (HX.out.below hb)); (try replace HY := Aside0.mk (HY.out.below hb)); (try replace HA := Aside0.mk (HA.out.below hb)); (try replace HC := Aside0.mk (HC.out.below hb)); (try replace HD := Aside0.mk (HD.out.below hb)); (try replace HE := Aside0.mk (HE.out.below hb)); replace HB := Aside0.mk (bthen HB.out hb); have HC := Aside0.mk (Sl.of_R hr); clear hr hb))
      | (go_at_call 26; ((with_reducible refine (impl_SetEach vt t n _ HT.out).mono ?_); rintro e w' ⟨vc, rfl, hr, hb⟩; (try replace HS := Aside0.mk (HS.out.below hb)); (try replace HT := Aside0.mk (HT.out.below hb)); (try replace HX := Aside0.mk (HX.out.below hb)); (try replace HY := Aside0.mk (HY.out.below hb)); (try replace HA := Aside0.mk (HA.out.below hb)); (try replace HC := Aside0.mk (HC.out.below hb)); (try replace HD := Aside0.mk (HD.out.below hb)); (try replace HE := Aside0.mk (HE.out.below hb)); replace HB := Aside0.mk (bthen HB.out hb); have HD := Aside0.mk (Sl.of_R hr); clear hr hb))
      | (go_at_call 23; ((with_reducible refine (impl_SetBoth vx vc (setEach s n) (setEach t n) _ HX.out HD.out).mono ?_); rintro e w' ⟨vd, rfl, hr, hb⟩; (try replace HS := Aside0.mk (HS.out.below hb)); (try replace HT := Aside0.mk (HT.out.below hb)); (try replace HX := Aside0.mk (HX.out.below hb)); (try replace HY := Aside0.mk (HY.out.below hb)); (try replace HA := Aside0.mk (HA.out.below hb)); (try replace HC := Aside0.mk (HC.out.below hb)); (try replace HD := Aside0.mk (HD.out.below hb)); (try replace HE := Aside0.mk (HE.out.below hb)); replace HB := Aside0.mk (bthen HB.out hb); have HE := Aside0.mk (Sl.of_R hr); clear hr hb))
      | (go_at_call 16; ((with_reducible refine (laws_lwItems vb vd (setEach (setBoth s t) n) (setBoth (setEach s n) (setEach t n)) _ HC.out HE.out).mono ?_); rintro e w' ⟨rfl, hb⟩; (try replace HS := Aside0.mk (HS.out.below hb)); (try replace HT := Aside0.mk (HT.out.below hb)); (try replace HX := Aside0.mk (HX.out.below hb)); (try replace HY := Aside0.mk (HY.out.below hb)); (try replace HA := Aside0.mk (HA.out.below hb)); (try replace HC := Aside0.mk (HC.out.below hb)); (try replace HD := Aside0.mk (HD.out.below hb)); (try replace HE := Aside0.mk (HE.out.below hb)); replace HB := Aside0.mk (bthen HB.out hb); clear hb)))
    go_ret
    exact RetV.mk rfl HB.out
  · have hbad : setOk s = false ∨ (setOk s = true ∧ setOk t = false) := by
      cases h1 : setOk s <;> cases h2 : setOk t <;> simp_all
    rcases hbad with hs | ⟨hs, ht⟩
    all_goals
      go_wp2_with (first
        | (go_at_call 26; ((with_reducible refine (impl_SetEach vs s n _ HS.out).mono ?_); rintro e w' ⟨vx, rfl, hr, hb⟩; (try replace HS := Aside0.mk (HS.out.below hb)); (try replace HT := Aside0.mk (HT.out.below hb)); (try replace HX := Aside0.mk (HX.out.below hb)); (try replace HY := Aside0.mk (HY.out.below hb)); replace HB := Aside0.mk (bthen HB.out hb); have HX := Aside0.mk (Sl.of_R hr); clear hr hb))
        | (go_at_call 27; ((with_reducible refine (spec_SetEach vs s n _ HS.out).mono ?_); rintro e w' ⟨vy, rfl, hr, hb⟩; (try replace HS := Aside0.mk (HS.out.below hb)); (try replace HT := Aside0.mk (HT.out.below hb)); (try replace HX := Aside0.mk (HX.out.below hb)); (try replace HY := Aside0.mk (HY.out.below hb)); replace HB := Aside0.mk (bthen HB.out hb); have HY := Aside0.mk (Sl.of_R hr); clear hr hb))
        | (go_at_call 16; ((with_reducible refine (laws_lwItems vx vy (setEach s n) (setEach s n) _ HX.out HY.out).mono ?_); rintro e w' ⟨rfl, hb⟩; (try replace HS := Aside0.mk (HS.out.below hb)); (try replace HT := Aside0.mk (HT.out.below hb)); (try replace HX := Aside0.mk (HX.out.below hb)); (try replace HY := Aside0.mk (HY.out.below hb)); replace HB := Aside0.mk (bthen HB.out hb); clear hb))
        | (go_at_call 18; ((with_reducible refine (spec_SetOk vs s _ HS.out).mono ?_); rintro e w' ⟨rfl, hb⟩; (try replace HS := Aside0.mk (HS.out.below hb)); (try replace HT := Aside0.mk (HT.out.below hb)); (try replace HX := Aside0.mk (HX.out.below hb)); (try replace HY := Aside0.mk (HY.out.below hb)); replace HB := Aside0.mk (bthen HB.out hb); clear hb))
        | (go_at_call 18; ((with_reducible refine (spec_SetOk vt t _ HT.out).mono ?_); rintro e w' ⟨rfl, hb⟩; (try replace HS := Aside0.mk (HS.out.below hb)); (try replace HT := Aside0.mk (HT.out.below hb)); (try replace HX := Aside0.mk (HX.out.below hb)); (try replace HY := Aside0.mk (HY.out.below hb)); replace HB := Aside0.mk (bthen HB.out hb); clear hb)))
      go_ret
      exact RetV.mk rfl HB.out
set_option maxRecDepth 100000 in
set_option maxHeartbeats 4000000 in
theorem laws_FnSetMore (v : Value) (l : List Int) (w : World) (h : IsBytes w v l) : Calls Try.prog 4 #[v] w (RetV w (.bool true)) := by
  have H := Aside0.mk h
  obtain ⟨⟨A, c, rfl, hc, hr⟩, hb⟩ := h
  have hm := Kd.C_max hr
  clear hr hb
  have HB := Aside0.mk (Below.refl w.heap.size w)
  go_enter Try.func4, Try.ntmps4
  by_cases hl : 1048576 < l.length
  · have hl' : (l.length : Int) > 1048576 := by omega
    go_wp2
    go_ret
    exact RetV.mk rfl HB.out
  have hl' : ¬ (l.length : Int) > 1048576 := by omega
  go_upto_region 4 with (go_at_call 20; ((with_reducible refine (spec_DrawSetOnce (.slice A l.length c) l w H.out.sl H.out.by_).mono ?_); rintro e wa ⟨vs, s, rfl, h1, h2, h5⟩; have HS := Aside0.mk h1; have DS := Aside0.mk h2; replace HB := Aside0.mk h5; clear h1 h2 h5))
  obtain ⟨ms, ls⟩ := DS.out
  have q0 : decide (setOnce s = setOnce s) = true := decide_eq_true rfl
  cases hs : setOk s
  · go_wp2_with (first
      | (go_at_call 21; ((with_reducible refine (impl_SetOnce vs s _ HS.out).mono ?_); rintro e w' ⟨vx, rfl, hr, hb⟩; (try replace HS := Aside0.mk (HS.out.below hb)); (try replace HX := Aside0.mk (HX.out.below hb)); (try replace HY := Aside0.mk (HY.out.below hb)); replace HB := Aside0.mk (bthen HB.out hb); have HX := Aside0.mk (Sl.of_R hr); clear hr hb))
      | (go_at_call 22; ((with_reducible refine (spec_SetOnce vs s _ HS.out).mono ?_); rintro e w' ⟨vy, rfl, hr, hb⟩; (try replace HS := Aside0.mk (HS.out.below hb)); (try replace HX := Aside0.mk (HX.out.below hb)); (try replace HY := Aside0.mk (HY.out.below hb)); replace HB := Aside0.mk (bthen HB.out hb); have HY := Aside0.mk (Sl.of_R hr); clear hr hb))
      | (go_at_call 16; ((with_reducible refine (laws_lwItems vx vy (setOnce s) (setOnce s) _ HX.out HY.out).mono ?_); rintro e w' ⟨rfl, hb⟩; (try replace HS := Aside0.mk (HS.out.below hb)); (try replace HX := Aside0.mk (HX.out.below hb)); (try replace HY := Aside0.mk (HY.out.below hb)); replace HB := Aside0.mk (bthen HB.out hb); clear hb))
      | (go_at_call 18; ((with_reducible refine (spec_SetOk vs s _ HS.out).mono ?_); rintro e w' ⟨rfl, hb⟩; (try replace HS := Aside0.mk (HS.out.below hb)); (try replace HX := Aside0.mk (HX.out.below hb)); (try replace HY := Aside0.mk (HY.out.below hb)); replace HB := Aside0.mk (bthen HB.out hb); clear hb)))
    go_ret
    exact RetV.mk rfl HB.out
  · obtain ⟨k1, k2⟩ := setOnce_more hs ms ls
    have q1 := decide_eq_true k1
    have q2 := decide_eq_true k2
    clear k1 k2
    go_wp2_with (first
      | (go_at_call 21; ((with_reducible refine (impl_SetOnce vs s _ HS.out).mono ?_); rintro e w' ⟨vx, rfl, hr, hb⟩; (try replace HS := Aside0.mk (HS.out.below hb)); (try replace HX := Aside0.mk (HX.out.below hb)); (try replace HY := Aside0.mk (HY.out.below hb)); (try replace HA := Aside0.mk (HA.out.below hb)); (try replace HC := Aside0.mk (HC.out.below hb)); (try replace HD := Aside0.mk (HD.out.below hb)); (try replace HE := Aside0.mk (HE.out.below hb)); replace HB := Aside0.mk (bthen HB.out hb); have HX := Aside0.mk (Sl.of_R hr); clear hr hb))
      | (go_at_call 22; ((with_reducible refine (spec_SetOnce vs s _ HS.out).mono ?_); rintro e w' ⟨vy, rfl, hr, hb⟩; (try replace HS := Aside0.mk (HS.out.below hb)); (try replace HX := Aside0.mk (HX.out.below hb)); (try replace HY := Aside0.mk (HY.out.below hb)); (try replace HA := Aside0.mk (HA.out.below hb)); (try replace HC := Aside0.mk (HC.out.below hb)); (try replace HD := Aside0.mk (HD.out.below hb)); (try replace HE := Aside0.mk (HE.out.below hb)); replace HB := Aside0.mk (bthen HB.out hb); have HY := Aside0.mk (Sl.of_R hr); clear hr hb))
      | (go_at_call 16; ((with_reducible refine (laws_lwItems vx vy (setOnce s) (setOnce s) _ HX.out HY.out).mono ?_); rintro e w' ⟨rfl, hb⟩; (try replace HS := Aside0.mk (HS.out.below hb)); (try replace HX := Aside0.mk (HX.out.below hb)); (try replace HY := Aside0.mk (HY.out.below hb)); (try replace HA := Aside0.mk (HA.out.below hb)); (try replace HC := Aside0.mk (HC.out.below hb)); (try replace HD := Aside0.mk (HD.out.below hb)); (try replace HE := Aside0.mk (HE.out.below hb)); replace HB := Aside0.mk (bthen HB.out hb); clear hb))
      | (go_at_call 18; ((with_reducible refine (spec_SetOk vs s _ HS.out).mono ?_); rintro e w' ⟨rfl, hb⟩; (try replace HS := Aside0.mk (HS.out.below hb)); (try replace HX := Aside0.mk (HX.out.below hb)); (try replace HY := Aside0.mk (HY.out.below hb)); (try replace HA := Aside0.mk (HA.out.below hb)); (try replace HC := Aside0.mk (HC.out.below hb)); (try replace HD := Aside0.mk (HD.out.below hb)); (try replace HE := Aside0.mk (HE.out.below hb)); replace HB := Aside0.mk (bthen HB.out hb); clear hb))
      | (go_at_call 23; ((with_reducible refine (impl_SetBoth vs vs s s _ HS.out HS.out).mono ?_); rintro e w' ⟨va, rfl, hr, hb⟩; (try replace HS := Aside0.mk (HS.out.below hb)); (try replace HX := Aside0.mk (HX.out.below hb)); (try replace HY := Aside0.mk (HY.out.below hb)); (try replace HA := Aside0.mk (HA.out.below hb)); (try replace HC := Aside0.mk (HC.out.below hb)); (try replace HD := Aside0.mk (HD.out.below hb)); (try replace HE := Aside0.mk (HE.out.below hb)); replace HB := Aside0.mk (bthen HB.out hb); have HA := Aside0.mk (Sl.of_R hr); clear hr hb))
      | (go_at_call 21; ((with_reducible refine (impl_SetOnce va (setBoth s s) _ HA.out).mono ?_); rintro e w' ⟨vb, rfl, hr, hb⟩; (try replace HS := Aside0.mk (HS.out.below hb)); (try replace HX := Aside0.mk (HX.out.below hb)); (try replace HY := Aside0.mk (HY.out.below hb)); (try replace HA := Aside0.mk (HA.out.below hb)); (try replace HC := Aside0.mk (HC.out.below hb)); (try replace HD := Aside0.mk (HD.out.below hb)); (try replace HE := Aside0.mk (HE.out.below hb)); replace HB := Aside0.mk (bthen HB.out hb); have HC := Aside0.mk (Sl.of_R hr); clear hr hb))
      | (go_at_call 16; ((with_reducible refine (laws_lwItems vb vx (setOnce (setBoth s s)) (setOnce s) _ HC.out HX.out).mono ?_); rintro e w' ⟨rfl, hb⟩; (try replace HS := Aside0.mk (HS.out.below hb)); (try replace HX := Aside0.mk (HX.out.below hb)); (try replace HY := Aside0.mk (HY.out.below hb)); (try replace HA := Aside0.mk (HA.out.below hb)); (try replace HC := Aside0.mk (HC.out.below hb)); (try replace HD := Aside0.mk (HD.out.below hb)); (try replace HE := Aside0.mk (HE.out.below hb)); replace HB := Aside0.mk (bthen HB.out hb); clear hb))
      | (go_at_call 24; ((with_reducible refine (impl_SetLeast va (setBoth s s) _ HA.out).mono ?_); rintro e w' ⟨vc, rfl, hr, hb⟩; (try replace HS := Aside0.mk (HS.out.below hb)); (try replace HX := Aside0.mk (HX.out.below hb)); (try replace HY := Aside0.mk (HY.out.below hb)); (try replace HA := Aside0.mk (HA.out.below hb)); (try replace HC := Aside0.mk (HC.out.below hb)); (try replace HD := Aside0.mk (HD.out.below hb)); (try replace HE := Aside0.mk (HE.out.below hb)); replace HB := Aside0.mk (bthen HB.out hb); have HD := Aside0.mk (Sl.of_R hr); clear hr hb))
      | (go_at_call 24; ((with_reducible refine (impl_SetLeast vs s _ HS.out).mono ?_); rintro e w' ⟨vd, rfl, hr, hb⟩; (try replace HS := Aside0.mk (HS.out.below hb)); (try replace HX := Aside0.mk (HX.out.below hb)); (try replace HY := Aside0.mk (HY.out.below hb)); (try replace HA := Aside0.mk (HA.out.below hb)); (try replace HC := Aside0.mk (HC.out.below hb)); (try replace HD := Aside0.mk (HD.out.below hb)); (try replace HE := Aside0.mk (HE.out.below hb)); replace HB := Aside0.mk (bthen HB.out hb); have HE := Aside0.mk (Sl.of_R hr); clear hr hb))
      | (go_at_call 16; ((with_reducible refine (laws_lwItems vc vd (setLeast (setBoth s s)) (setLeast s) _ HD.out HE.out).mono ?_); rintro e w' ⟨rfl, hb⟩; (try replace HS := Aside0.mk (HS.out.below hb)); (try replace HX := Aside0.mk (HX.out.below hb)); (try replace HY := Aside0.mk (HY.out.below hb)); (try replace HA := Aside0.mk (HA.out.below hb)); (try replace HC := Aside0.mk (HC.out.below hb)); (try replace HD := Aside0.mk (HD.out.below hb)); (try replace HE := Aside0.mk (HE.out.below hb)); replace HB := Aside0.mk (bthen HB.out hb); clear hb)))
    go_ret
    exact RetV.mk rfl HB.out
set_option maxRecDepth 100000 in
set_option maxHeartbeats 4000000 in
theorem laws_FnSetJoinLess (v : Value) (l : List Int) (w : World) (h : IsBytes w v l) : Calls Try.prog 3 #[v] w (RetV w (.bool true)) := by
  have H := Aside0.mk h
  obtain ⟨⟨A, c, rfl, hc, hr⟩, hb⟩ := h
  have hm := Kd.C_max hr
  clear hr hb
  have HB := Aside0.mk (Below.refl w.heap.size w)
  go_enter Try.func3, Try.ntmps3
  by_cases hl : 1048576 < l.length
  · have hl' : (l.length : Int) > 1048576 := by omega
    go_wp2
    go_ret
    exact RetV.mk rfl HB.out
  have hl' : ¬ (l.length : Int) > 1048576 := by omega
  go_upto_region 4 with (go_at_call 14; ((with_reducible refine (spec_DrawSetJoin (.slice A l.length c) l w H.out.sl H.out.by_).mono ?_); rintro e wa ⟨vs, vt, s, t, rfl, h1, h2, h3, h4, h5⟩; have HS := Aside0.mk h1; have HT := Aside0.mk h2; have DS := Aside0.mk h3; have DT := Aside0.mk h4; replace HB := Aside0.mk h5; clear h1 h2 h3 h4 h5))
  obtain ⟨ms, ls⟩ := DS.out
  obtain ⟨mt, lt⟩ := DT.out
  have q0 : decide (setJoin s t = setJoin s t) = true := decide_eq_true rfl
  by_cases hgo : setOk s = true ∧ setOk t = true
  · obtain ⟨hs, ht⟩ := hgo
    obtain ⟨k1, k2⟩ := setJoin_less hs ht ms mt ls lt
    have q1 := decide_eq_true k1
    have q2 := decide_eq_true k2
    clear k1 k2
    go_wp2_with (first
      | (go_at_call 15; ((with_reducible refine (impl_SetJoin vs vt s t _ HS.out HT.out).mono ?_); rintro e w' ⟨vx, rfl, hr, hb⟩; (try replace HS := Aside0.mk (HS.out.below hb)); (try replace HT := Aside0.mk (HT.out.below hb)); (try replace HX := Aside0.mk (HX.out.below hb)); (try replace HY := Aside0.mk (HY.out.below hb)); (try replace HA := Aside0.mk (HA.out.below hb)); (try replace HC := Aside0.mk (HC.out.below hb)); (try replace HD := Aside0.mk (HD.out.below hb)); (try replace HE := Aside0.mk (HE.out.below hb)); (try replace HF := Aside0.mk (HF.out.below hb)); replace HB := Aside0.mk (bthen HB.out hb); have HX := Aside0.mk (Sl.of_R hr); clear hr hb))
      | (go_at_call 17; ((with_reducible refine (spec_SetJoin vs vt s t _ HS.out HT.out).mono ?_); rintro e w' ⟨vy, rfl, hr, hb⟩; (try replace HS := Aside0.mk (HS.out.below hb)); (try replace HT := Aside0.mk (HT.out.below hb)); (try replace HX := Aside0.mk (HX.out.below hb)); (try replace HY := Aside0.mk (HY.out.below hb)); (try replace HA := Aside0.mk (HA.out.below hb)); (try replace HC := Aside0.mk (HC.out.below hb)); (try replace HD := Aside0.mk (HD.out.below hb)); (try replace HE := Aside0.mk (HE.out.below hb)); (try replace HF := Aside0.mk (HF.out.below hb)); replace HB := Aside0.mk (bthen HB.out hb); have HY := Aside0.mk (Sl.of_R hr); clear hr hb))
      | (go_at_call 16; ((with_reducible refine (laws_lwItems vx vy (setJoin s t) (setJoin s t) _ HX.out HY.out).mono ?_); rintro e w' ⟨rfl, hb⟩; (try replace HS := Aside0.mk (HS.out.below hb)); (try replace HT := Aside0.mk (HT.out.below hb)); (try replace HX := Aside0.mk (HX.out.below hb)); (try replace HY := Aside0.mk (HY.out.below hb)); (try replace HA := Aside0.mk (HA.out.below hb)); (try replace HC := Aside0.mk (HC.out.below hb)); (try replace HD := Aside0.mk (HD.out.below hb)); (try replace HE := Aside0.mk (HE.out.below hb)); (try replace HF := Aside0.mk (HF.out.below hb)); replace HB := Aside0.mk (bthen HB.out hb); clear hb))
      | (go_at_call 18; ((with_reducible refine (spec_SetOk vs s _ HS.out).mono ?_); rintro e w' ⟨rfl, hb⟩; (try replace HS := Aside0.mk (HS.out.below hb)); (try replace HT := Aside0.mk (HT.out.below hb)); (try replace HX := Aside0.mk (HX.out.below hb)); (try replace HY := Aside0.mk (HY.out.below hb)); (try replace HA := Aside0.mk (HA.out.below hb)); (try replace HC := Aside0.mk (HC.out.below hb)); (try replace HD := Aside0.mk (HD.out.below hb)); (try replace HE := Aside0.mk (HE.out.below hb)); (try replace HF := Aside0.mk (HF.out.below hb)); replace HB := Aside0.mk (bthen HB.out hb); clear hb))
      | (go_at_call 18; ((with_reducible refine (spec_SetOk vt t _ HT.out).mono ?_); rintro e w' ⟨rfl, hb⟩; (try replace HS := Aside0.mk (HS.out.below hb)); (try replace HT := Aside0.mk (HT.out.below hb)); (try replace HX := Aside0.mk (HX.out.below hb)); (try replace HY := Aside0.mk (HY.out.below hb)); (try replace HA := Aside0.mk (HA.out.below hb)); (try replace HC := Aside0.mk (HC.out.below hb)); (try replace HD := Aside0.mk (HD.out.below hb)); (try replace HE := Aside0.mk (HE.out.below hb)); (try replace HF := Aside0.mk (HF.out.below hb)); replace HB := Aside0.mk (bthen HB.out hb); clear hb))
      | (go_at_call 19; ((with_reducible refine (impl_SetLess vs s _ HS.out).mono ?_); rintro e w' ⟨va, rfl, hr, hb⟩; (try replace HS := Aside0.mk (HS.out.below hb)); (try replace HT := Aside0.mk (HT.out.below hb)); (try replace HX := Aside0.mk (HX.out.below hb)); (try replace HY := Aside0.mk (HY.out.below hb)); (try replace HA := Aside0.mk (HA.out.below hb)); (try replace HC := Aside0.mk (HC.out.below hb)); (try replace HD := Aside0.mk (HD.out.below hb)); (try replace HE := Aside0.mk (HE.out.below hb)); (try replace HF := Aside0.mk (HF.out.below hb)); replace HB := Aside0.mk (bthen HB.out hb); have HA := Aside0.mk (Sl.of_R hr); clear hr hb))
      | (go_at_call 15; ((with_reducible refine (impl_SetJoin va vt (setLess s) t _ HA.out HT.out).mono ?_); rintro e w' ⟨vb, rfl, hr, hb⟩; (try replace HS := Aside0.mk (HS.out.below hb)); (try replace HT := Aside0.mk (HT.out.below hb)); (try replace HX := Aside0.mk (HX.out.below hb)); (try replace HY := Aside0.mk (HY.out.below hb)); (try replace HA := Aside0.mk (HA.out.below hb)); (try replace HC := Aside0.mk (HC.out.below hb)); (try replace HD := Aside0.mk (HD.out.below hb)); (try replace HE := Aside0.mk (HE.out.below hb)); (try replace HF := Aside0.mk (HF.out.below hb)); replace HB := Aside0.mk (bthen HB.out hb); have HC := Aside0.mk (Sl.of_R hr); clear hr hb))
      | (go_at_call 19; ((with_reducible refine (impl_SetLess vx (setJoin s t) _ HX.out).mono ?_); rintro e w' ⟨vc, rfl, hr, hb⟩; (try replace HS := Aside0.mk (HS.out.below hb)); (try replace HT := Aside0.mk (HT.out.below hb)); (try replace HX := Aside0.mk (HX.out.below hb)); (try replace HY := Aside0.mk (HY.out.below hb)); (try replace HA := Aside0.mk (HA.out.below hb)); (try replace HC := Aside0.mk (HC.out.below hb)); (try replace HD := Aside0.mk (HD.out.below hb)); (try replace HE := Aside0.mk (HE.out.below hb)); (try replace HF := Aside0.mk (HF.out.below hb)); replace HB := Aside0.mk (bthen HB.out hb); have HD := Aside0.mk (Sl.of_R hr); clear hr hb))
      | (go_at_call 16; ((with_reducible refine (laws_lwItems vb vc (setJoin (setLess s) t) (setLess (setJoin s t)) _ HC.out HD.out).mono ?_); rintro e w' ⟨rfl, hb⟩; (try replace HS := Aside0.mk (HS.out.below hb)); (try replace HT := Aside0.mk (HT.out.below hb)); (try replace HX := Aside0.mk (HX.out.below hb)); (try replace HY := Aside0.mk (HY.out.below hb)); (try replace HA := Aside0.mk (HA.out.below hb)); (try replace HC := Aside0.mk (HC.out.below hb)); (try replace HD := Aside0.mk (HD.out.below hb)); (try replace HE := Aside0.mk (HE.out.below hb)); (try replace HF := Aside0.mk (HF.out.below hb)); replace HB := Aside0.mk (bthen HB.out hb); clear hb))
      | (go_at_call 19; ((with_reducible refine (impl_SetLess vt t _ HT.out).mono ?_); rintro e w' ⟨vd, rfl, hr, hb⟩; (try replace HS := Aside0.mk (HS.out.below hb)); (try replace HT := Aside0.mk (HT.out.below hb)); (try replace HX := Aside0.mk (HX.out.below hb)); (try replace HY := Aside0.mk (HY.out.below hb)); (try replace HA := Aside0.mk (HA.out.below hb)); (try replace HC := Aside0.mk (HC.out.below hb)); (try replace HD := Aside0.mk (HD.out.below hb)); (try replace HE := Aside0.mk (HE.out.below hb)); (try replace HF := Aside0.mk (HF.out.below hb)); replace HB := Aside0.mk (bthen HB.out hb); have HE := Aside0.mk (Sl.of_R hr); clear hr hb))
      | (go_at_call 15; ((with_reducible refine (impl_SetJoin vs vd s (setLess t) _ HS.out HE.out).mono ?_); rintro e w' ⟨ve, rfl, hr, hb⟩; (try replace HS := Aside0.mk (HS.out.below hb)); (try replace HT := Aside0.mk (HT.out.below hb)); (try replace HX := Aside0.mk (HX.out.below hb)); (try replace HY := Aside0.mk (HY.out.below hb)); (try replace HA := Aside0.mk (HA.out.below hb)); (try replace HC := Aside0.mk (HC.out.below hb)); (try replace HD := Aside0.mk (HD.out.below hb)); (try replace HE := Aside0.mk (HE.out.below hb)); (try replace HF := Aside0.mk (HF.out.below hb)); replace HB := Aside0.mk (bthen HB.out hb); have HF := Aside0.mk (Sl.of_R hr); clear hr hb))
      | (go_at_call 16; ((with_reducible refine (laws_lwItems ve vc (setJoin s (setLess t)) (setLess (setJoin s t)) _ HF.out HD.out).mono ?_); rintro e w' ⟨rfl, hb⟩; (try replace HS := Aside0.mk (HS.out.below hb)); (try replace HT := Aside0.mk (HT.out.below hb)); (try replace HX := Aside0.mk (HX.out.below hb)); (try replace HY := Aside0.mk (HY.out.below hb)); (try replace HA := Aside0.mk (HA.out.below hb)); (try replace HC := Aside0.mk (HC.out.below hb)); (try replace HD := Aside0.mk (HD.out.below hb)); (try replace HE := Aside0.mk (HE.out.below hb)); (try replace HF := Aside0.mk (HF.out.below hb)); replace HB := Aside0.mk (bthen HB.out hb); clear hb)))
    go_ret
    exact RetV.mk rfl HB.out
  · have hbad : setOk s = false ∨ (setOk s = true ∧ setOk t = false) := by
      cases h1 : setOk s <;> cases h2 : setOk t <;> simp_all
    rcases hbad with hs | ⟨hs, ht⟩
    all_goals
      go_wp2_with (first
        | (go_at_call 15; ((with_reducible refine (impl_SetJoin vs vt s t _ HS.out HT.out).mono ?_); rintro e w' ⟨vx, rfl, hr, hb⟩; (try replace HS := Aside0.mk (HS.out.below hb)); (try replace HT := Aside0.mk (HT.out.below hb)); (try replace HX := Aside0.mk (HX.out.below hb)); (try replace HY := Aside0.mk (HY.out.below hb)); replace HB := Aside0.mk (bthen HB.out hb); have HX := Aside0.mk (Sl.of_R hr); clear hr hb))
        | (go_at_call 17; ((with_reducible refine (spec_SetJoin vs vt s t _ HS.out HT.out).mono ?_); rintro e w' ⟨vy, rfl, hr, hb⟩; (try replace HS := Aside0.mk (HS.out.below hb)); (try replace HT := Aside0.mk (HT.out.below hb)); (try replace HX := Aside0.mk (HX.out.below hb)); (try replace HY := Aside0.mk (HY.out.below hb)); replace HB := Aside0.mk (bthen HB.out hb); have HY := Aside0.mk (Sl.of_R hr); clear hr hb))
        | (go_at_call 16; ((with_reducible refine (laws_lwItems vx vy (setJoin s t) (setJoin s t) _ HX.out HY.out).mono ?_); rintro e w' ⟨rfl, hb⟩; (try replace HS := Aside0.mk (HS.out.below hb)); (try replace HT := Aside0.mk (HT.out.below hb)); (try replace HX := Aside0.mk (HX.out.below hb)); (try replace HY := Aside0.mk (HY.out.below hb)); replace HB := Aside0.mk (bthen HB.out hb); clear hb))
        | (go_at_call 18; ((with_reducible refine (spec_SetOk vs s _ HS.out).mono ?_); rintro e w' ⟨rfl, hb⟩; (try replace HS := Aside0.mk (HS.out.below hb)); (try replace HT := Aside0.mk (HT.out.below hb)); (try replace HX := Aside0.mk (HX.out.below hb)); (try replace HY := Aside0.mk (HY.out.below hb)); replace HB := Aside0.mk (bthen HB.out hb); clear hb))
        | (go_at_call 18; ((with_reducible refine (spec_SetOk vt t _ HT.out).mono ?_); rintro e w' ⟨rfl, hb⟩; (try replace HS := Aside0.mk (HS.out.below hb)); (try replace HT := Aside0.mk (HT.out.below hb)); (try replace HX := Aside0.mk (HX.out.below hb)); (try replace HY := Aside0.mk (HY.out.below hb)); replace HB := Aside0.mk (bthen HB.out hb); clear hb)))
      go_ret
      exact RetV.mk rfl HB.out
end Go.Proofs.Ytbbkimgadohdkaa.X
