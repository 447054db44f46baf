/- Conditions: none. -/
import Derived.Test.YtkdendlgaaimbaaYOSpH
import Derived.Test.YtkdendlgaaimbaaYCBs
import Derived.Test.YtkdendlgaaimbaaYOBs
import Derived.RegionTactic
import Derived.BigRegion
namespace Go.Proofs.Ytkdendlgaaimbaa.X
open Go.RowKit Go.Proofs.YtkdendlgaaimbaaW.PrintWords Go.Proofs.YtkdendlgaaimbaaW.PrintLast
set_option linter.unusedVariables false
set_option linter.unusedSimpArgs false
set_option maxRecDepth 100000 in
set_option maxHeartbeats 4000000 in
theorem impl_SinceH (u v v2 : Value) (ls : List (List Rw)) (f l : List Tm) (w : World) (h : SpS w u v ls f) (h2 : Sl kTm w v2 l) (hb : SpB ls f) (hll : l.length ≤ 1048576) : Calls Try.prog 17 #[.agg #[u, v], v2] w (SpU w (sinceL ls f l) (sinceF ls f l) (sinceB ls f l)) := by
 have HS := Aside0.mk h
 have HV := Aside0.mk h2
 have HSB := Aside0.mk hb
 obtain ⟨⟨A, c, rfl, hc, hr⟩, A2, c2, rfl, hc2, hr2⟩ := h
 obtain ⟨A3, c3, rfl, hc3, hr3⟩ := h2
 have hf := hb.f
 have HC3 := Aside0.mk hr3
 clear hr hr2 hr3 hb
 have HB := Aside0.mk (Below.refl w.heap.size w)
 go_enter Try.func17, Try.ntmps17
 go_upto_region 1 with fail
 refine name_world fun W0 hW0 => ?_
 have hb0 : Below w.heap.size w W0 := hW0 ▸ below_alloc (below_alloc (Below.refl _ _) _) _
 have K0 : W0.heap[w.heap.size]? = some (.cells #[.slice A ls.length c, .slice A2 f.length c2] 26 (0, 0)) := by rw [hW0]; exact (blk_alloc (blk_new w _) _)
 obtain ⟨T, hT⟩ : ∃ T, T = w.heap.size + 1 := ⟨_, rfl⟩
 have T0 : W0.heap[T]? = some (.cells #[.slice none 0 0, .slice none 0 0] 26 (0, 0)) := by rw [hW0, hT]; have := blk_new (w.alloc (.cells #[.slice A ls.length c, .slice A2 f.length c2] 26 (0, 0))) (.cells #[.slice none 0 0, .slice none 0 0] 26 (0, 0)); simpa using this
 rw [← hT]
 obtain ⟨K, hK⟩ : ∃ K, K = w.heap.size := ⟨_, rfl⟩
 rw [← hK] at K0 ⊢
 have HTw := Aside0.mk (show w.heap.size ≤ T by omega)
 have hne : K ≠ T := by omega
 have HK := Aside0.mk K0
 have HT := Aside0.mk T0
 replace HB := Aside0.mk hb0
 replace HS := Aside0.mk (HS.out.below hb0)
 replace HV := Aside0.mk (HV.out.below hb0)
 have HC0 := Aside0.mk (show Below w.heap.size w W0 from hb0)
 clear hW0 hT hK K0 T0 hb0
 have k0 := blk_cell HK.out 0
 have k1 := blk_cell HK.out 1
 have HCO := Aside0.mk (impl_SpineOk (.slice A ls.length c) (.slice A2 f.length c2) ls f W0 HS.out.1 HS.out.2 (Nat.le_trans HSB.out.l (by decide)))
 cases hso : spineOk ls f
 case false =>
  have HJ := Aside0.mk (show sinceB ls f l = false by unfold sinceB; rw [hso]; rfl)
  go_wp2_with (go_at_call 21; ((with_reducible refine HCO.out.mono ?_); rintro e wa ⟨rfl, hb⟩; rw [hso]; replace HT := Aside0.mk (blk_below HT.out hb); replace HB := Aside0.mk (bthen HB.out hb); have z0 := blk_cell HT.out 0; have z1 := blk_cell HT.out 1; have zf0 := blk_frozen HT.out 0; have zf1 := blk_frozen HT.out 1; clear hb))
  refine bodyPost_ret (results_ct rfl _ _ T 26 #[.slice none 0 0, .slice none 0 0] (0, 0) _ rfl (blk2 HT.out _ _) Try.underlying26 rfl (by kernel_rfl)) rfl ?_
  exact since_noU HJ.out (below_set (below_set HB.out HTw.out) HTw.out)
 case true =>
  have HSO := Aside0.mk (spineOk_iff.1 hso)
  cases hfo : frontOk l
  case false =>
   have HJ := Aside0.mk (show sinceB ls f l = false by unfold sinceB; rw [hso, hfo]; rfl)
   go_wp2_with (first
    | (go_at_call 21; ((with_reducible refine HCO.out.mono ?_); rintro e wa ⟨rfl, hb⟩; rw [hso]; replace HT := Aside0.mk (blk_below HT.out hb); replace HV := Aside0.mk (HV.out.below hb); replace HB := Aside0.mk (bthen HB.out hb); clear hb))
    | (go_at_call 76; ((with_reducible refine (impl_FrontOk _ l _ HV.out).mono ?_); rintro e wb ⟨rfl, hb⟩; rw [hfo]; replace HT := Aside0.mk (blk_below HT.out hb); replace HB := Aside0.mk (bthen HB.out hb); have z0 := blk_cell HT.out 0; have z1 := blk_cell HT.out 1; have zf0 := blk_frozen HT.out 0; have zf1 := blk_frozen HT.out 1; clear hb)))
   refine bodyPost_ret (results_ct rfl _ _ T 26 #[.slice none 0 0, .slice none 0 0] (0, 0) _ rfl (blk2 HT.out _ _) Try.underlying26 rfl (by kernel_rfl)) rfl ?_
   exact since_noU HJ.out (below_set (below_set HB.out HTw.out) HTw.out)
  case true =>
   have HFO := Aside0.mk hfo
   go_upto_if 21 with (first
    | (go_at_call 21; ((with_reducible refine HCO.out.mono ?_); rintro e wa ⟨rfl, hb⟩; rw [hso]; replace HT := Aside0.mk (blk_below HT.out hb); replace HK := Aside0.mk (blk_below HK.out hb); replace HS := Aside0.mk (HS.out.below hb); replace HV := Aside0.mk (HV.out.below hb); replace HB := Aside0.mk (bthen HB.out hb); clear hb))
    | (go_at_call 76; ((with_reducible refine (impl_FrontOk _ l _ HV.out).mono ?_); rintro e wb ⟨rfl, hb⟩; rw [hfo]; replace HT := Aside0.mk (blk_below HT.out hb); replace HK := Aside0.mk (blk_below HK.out hb); replace HS := Aside0.mk (HS.out.below hb); replace HV := Aside0.mk (HV.out.below hb); replace HB := Aside0.mk (bthen HB.out hb); clear hb)))
   clear k0 k1
   by_cases hl0 : l.length = 0
   case pos =>
    have hl0z : ((l.length : Int) == 0) = true := by rw [hl0]; rfl
    have HJ := Aside0.mk (show sinceB ls f l = false by rw [List.eq_nil_of_length_eq_zero hl0]; unfold sinceB; simp)
    have z0 := blk_cell HT.out 0
    have z1 := blk_cell HT.out 1
    have zf0 := blk_frozen HT.out 0
    have zf1 := blk_frozen HT.out 1
    clear hl0
    go_wp2
    refine bodyPost_ret (results_ct rfl _ _ T 26 #[.slice none 0 0, .slice none 0 0] (0, 0) _ rfl (blk2 HT.out _ _) Try.underlying26 rfl (by kernel_rfl)) rfl ?_
    exact since_noU HJ.out (below_set (below_set HB.out HTw.out) HTw.out)
   case neg =>
    have hl0z : ((l.length : Int) == 0) = false := by rw [beq_eq_false_iff_ne]; omega
    have HL0 := Aside0.mk hl0
    clear hl0
    have HBR := Aside0.mk (Below.refl wb.heap.size wb)
    simp only [hl0z]
    go_wp2
    go_loopg [25] l.length (fun g i wr => ∃ k : Nat, k ≤ l.length ∧ l.length - k ≤ g ∧ i = .int .i64 k ∧ Aside0 (∀ t ∈ l.take k, askOk f t = true) ∧ Aside0 (Below wb.heap.size wb wr))
    case atStart => exact ⟨0, Nat.zero_le _, Nat.sub_le _ _, rfl, ⟨by simp⟩, HBR⟩
    case round =>
     clear HBR
     obtain ⟨k, hk, hkg, rfl, HA, HBW⟩ := hrel
     by_cases hlt : k < l.length
     ·obtain ⟨ad, x, e, HX, h0, h1⟩ := rdTm HC3.out (bthen HB.out HBW.out) hlt
      cases e
      have hki : (k : Int) < (l.length : Int) := Int.ofNat_lt.2 hlt
      have hk0 : (0 : Int) ≤ (k : Int) := Int.natCast_nonneg k
      go_upto_region 6 with fail
      refine name_world fun W5 hW => ?_
      have BY : W5.heap[wr.heap.size]? = some (.cells #[.int .i64 x.f0, .int .i64 x.f1] 43 (0, 0)) := by rw [hW]; exact blk_new wr _
      have hb1 : Below wr.heap.size wr W5 := by rw [hW]; repeat (first | exact Below.refl _ _ | apply below_alloc | refine below_set ?_ (by simp))
      clear hW
      generalize hY : wr.heap.size = Y at BY ⊢
      replace HBW := Aside0.mk (bthen HBW.out hb1)
      have HYB := Aside0.mk BY
      clear BY hb1 hY h0 h1
      have kk : W5.cell? ⟨K, 1, none⟩ = some (.slice A2 f.length c2) := blk_cell (blk_below HK.out HBW.out) 1
      have y0 := blk_cell HYB.out 0
      have y1 := blk_cell HYB.out 1
      have hthree : (f.length = 0 ∧ askOk f x = true) ∨ (0 < f.length ∧ ∃ b, beyond f x = b ∧ askOk f x = b) := by
       unfold askOk
       cases f with
       | nil => exact .inl ⟨rfl, rfl⟩
       | cons a f => exact .inr ⟨by simp, _, rfl, rfl⟩
      rcases hthree with ⟨hlen, hask⟩ | ⟨hlen, b, hcov, hask⟩
      ·have hl1 : ¬ (f.length : Int) > 0 := by omega
       have HASK := Aside0.mk hask
       clear hask hlen
       go_wp2
       go_roundg (l.length - (k + 1))
       case rel => exact ⟨k + 1, by omega, Nat.le_refl _, by go_num, ⟨by rw [take_snoc HX.out]; intro r hr; rcases List.mem_append.1 hr with hr | hr; exact HA.out r hr; rw [List.mem_singleton.1 hr]; exact HASK.out⟩, HBW⟩
       case measure => omega
      ·have hl1 : (f.length : Int) > 0 := by omega
       have HASK := Aside0.mk hask
       have CV := Aside0.mk (show Calls Try.prog 72 #[.slice A2 f.length c2, .agg #[.int .i64 x.f0, .int .i64 x.f1]] W5 (RetV W5 (.bool b)) from by
        have := impl_beyond (.slice A2 f.length c2) f x.f0 x.f1 W5 (HS.out.2.below HBW.out)
        rwa [show beyond f ⟨x.f0, x.f1⟩ = b from hcov] at this)
       clear hask hlen hcov
       cases b
       ·have HJ := Aside0.mk (show sinceB ls f l = false by
         have hx := List.mem_of_getElem? HX.out
         cases h : sinceB ls f l
         ·rfl
         ·unfold sinceB at h
          simp only [Bool.and_eq_true, List.all_eq_true] at h
          have := h.2 x hx
          rw [HASK.out] at this
          cases this)
        go_wp2_with (go_at_call 72; ((with_reducible refine CV.out.mono ?_); rintro e w6 ⟨rfl, hb6⟩; replace HT := Aside0.mk (blk_below HT.out (bthen HBW.out hb6)); have HB2 := Aside0.mk (bthen HBW.out hb6); have z0 := blk_cell HT.out 0; have z1 := blk_cell HT.out 1; have zf0 := blk_frozen HT.out 0; have zf1 := blk_frozen HT.out 1; clear hb6))
        refine bodyPost_ret (results_ct rfl _ _ T 26 #[.slice none 0 0, .slice none 0 0] (0, 0) _ rfl (blk2 HT.out _ _) Try.underlying26 rfl (by kernel_rfl)) rfl ?_
        exact since_noU HJ.out (below_set (below_set (bthen HB.out HB2.out) HTw.out) HTw.out)
       ·go_wp2_with (go_at_call 72; ((with_reducible refine CV.out.mono ?_); rintro e w6 ⟨rfl, hb6⟩; have HB2 := Aside0.mk (bthen HBW.out hb6); clear hb6))
        go_roundg (l.length - (k + 1))
        case rel => exact ⟨k + 1, by omega, Nat.le_refl _, by go_num, ⟨by rw [take_snoc HX.out]; intro r hr; rcases List.mem_append.1 hr with hr | hr; exact HA.out r hr; rw [List.mem_singleton.1 hr]; exact HASK.out⟩, HB2⟩
        case measure => omega
     ·have HJ := Aside0.mk (show sinceB ls f l = true by
       have ha := HA.out
       rw [List.take_of_length_le (by omega)] at ha
       unfold sinceB
       simp only [Bool.and_eq_true, List.all_eq_true]
       refine ⟨⟨⟨spineOk_iff.2 HSO.out, HFO.out⟩, ?_⟩, ha⟩
       cases l with
       | nil => exact absurd rfl HL0.out
       | cons a l => rfl)
      clear HA
      replace HT := Aside0.mk (blk_below HT.out HBW.out)
      replace HK := Aside0.mk (blk_below HK.out HBW.out)
      replace HS := Aside0.mk (HS.out.below HBW.out)
      replace HV := Aside0.mk (HV.out.below HBW.out)
      replace HB := Aside0.mk (bthen HB.out HBW.out)
      have k0 := blk_cell HK.out 0
      have k1 := blk_cell HK.out 1
      clear HBW
      go_upto_region 10 with (go_at_call 73; ((with_reducible refine (impl_spineCopy (.slice A ls.length c) (.slice A2 f.length c2) ls f _ HS.out HSB.out).mono ?_); rintro e w4 ⟨xa, xb, rfl, hr0, hbb⟩; have hr := SpO.t hr0; obtain ⟨A7, c7, e7⟩ := Kd.R_slice hr.1; subst e7; obtain ⟨A8, c8, e8⟩ := Kd.R_slice hr.2; subst e8; have HX4 := Aside0.mk (SpT.lower hr HB.out.size); replace HT := Aside0.mk (blk_below HT.out hbb); replace HK := Aside0.mk (blk_below HK.out hbb); replace HV := Aside0.mk (HV.out.below hbb); replace HB := Aside0.mk (bthen HB.out hbb); clear hr hr0 hbb))
      refine name_world fun W5 hW => ?_
      have BX : W5.heap[w4.heap.size]? = some (.cells #[.slice A7 ls.length c7, .slice A8 f.length c8] 26 (0, 0)) := by rw [hW]; exact blk_new w4 _
      have hb1 : Below w4.heap.size w4 W5 := by rw [hW]; repeat (first | exact Below.refl _ _ | apply below_alloc | refine below_set ?_ (by simp))
      clear hW
      generalize hX : w4.heap.size = X at BX ⊢
      have hXw : w.heap.size ≤ X := by have := HB.out.size; omega
      have hKX : K ≠ X := by have := blk_lt HK.out; omega
      have hTX : T ≠ X := by have := blk_lt HT.out; omega
      have HQ : Aside0 (CS w K X T (.slice A ls.length c) (.slice A2 f.length c2) (.slice A7 ls.length c7) (.slice A8 f.length c8) ls f W5) := ⟨⟨HX4.out.below hb1, blk_below HK.out hb1, BX, blk_below HT.out hb1, bthen HB.out hb1⟩⟩
      replace HV := Aside0.mk (HV.out.below hb1)
      clear HX4 BX HK HT HB hb1 k0 k1 hX
      go_upto_region 11 with (go_at_call 77; ((with_reducible refine (impl_timesCopy (.slice A3 l.length c3) l W5 HV.out (Nat.lt_of_le_of_lt hll (by decide))).mono ?_); rintro e w6 ⟨v9, rfl, hr, hb⟩; obtain ⟨A9, c9, e9⟩ := Kd.R_slice hr; subst e9; have HF6 := Aside0.mk (Kd.R_lower hr HQ.out.be.size); have HQ6 := Aside0.mk (HQ.out.below hb); have x1 := HQ6.out.x1; have xf1 := blk_frozen HQ6.out.xb 1; clear hr hb))
      have hq := CS.put1 HQ6.out HF6.out hXw hKX hTX
      obtain ⟨wz, hwz⟩ : ∃ wz, wz = w6.setCell ⟨X, 1, none⟩ (.slice A9 l.length c9) := ⟨_, rfl⟩
      rw [← hwz] at hq ⊢
      replace HQ := Aside0.mk hq
      clear hq hwz x1 xf1 HQ6 HF6
      have x0 := HQ.out.x0
      have x1 := HQ.out.x1
      have t0 := blk_cell HQ.out.tb 0
      have t1 := blk_cell HQ.out.tb 1
      have tf0 := blk_frozen HQ.out.tb 0
      have tf1 := blk_frozen HQ.out.tb 1
      go_wp2
      refine bodyPost_ret (results_ct rfl _ _ T 26 #[.slice A7 ls.length c7, .slice A9 l.length c9] (0, 0) _ rfl (blk2 HQ.out.tb _ _) Try.underlying26 rfl (by kernel_rfl)) rfl ?_
      obtain ⟨q1, q2⟩ := CS.fin HQ.out HTw.out (.slice A7 ls.length c7) (.slice A9 l.length c9)
      exact since_yesU HJ.out q1 q2
end Go.Proofs.Ytkdendlgaaimbaa.X
