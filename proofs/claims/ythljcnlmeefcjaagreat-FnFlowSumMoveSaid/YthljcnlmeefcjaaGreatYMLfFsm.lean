/- The walk of what says whether rows say the same at a front, or behind it. Conditions: they do. -/
import Derived.Test.YthljcnlmeefcjaaGreatYMPlH
import Derived.Test.YthljcnlmeefcjaaGreatYMLw
import Derived.Test.YthljcnlmeefcjaaGreatYMFt
import Derived.RegionTactic
import Derived.BigRegion
import Derived.Test.YthljcnlmeefcjaaGreatYMFrT
import Derived.Test.YthljcnlmeefcjaaGreatYMMv2
import Derived.Test.YthljcnlmeefcjaaGreatYMDrFs
import Derived.Test.YthljcnlmeefcjaaGreatYMFs3
import Derived.Test.YthljcnlmeefcjaaGreatYMBytes
namespace Go.Proofs.YthljcnlmeefcjaaGreat.X
open Go.RowKit Go.Proofs.YthljcnlmeefcjaaGreatW.PrintWords
set_option linter.unusedVariables false
set_option linter.unusedSimpArgs false

set_option maxRecDepth 100000 in
set_option maxHeartbeats 4000000 in
theorem laws_lwSame (va vb vf : Value) (a b : List Rw) (f : List Tm) (w : World) (h1 : Sl kRw w va a) (h2 : Sl kRw w vb b) (h3 : Sl kTm w vf f) (hq : ∀ t, tOk t = true → (f = [] ∨ covers f t = true) → batchAt a t = batchAt b t) :
    Calls Tryz.prog 14 #[va, vb, vf] w (RetV w (.bool true)) := by
  have HOK := Aside0.mk allTm_ok
  have HQ := Aside0.mk hq
  have HX := Aside0.mk h1
  have HY := Aside0.mk h2
  have HF := Aside0.mk h3
  obtain ⟨Af, cf, rfl, hcf, hCf⟩ := h3
  have hmf := Kd.C_max hCf
  clear h1 h2 hq hCf
  obtain ⟨n, hn⟩ : ∃ n, n = f.length := ⟨_, rfl⟩
  rw [← hn] at HF hcf hmf ⊢
  have HN := Aside0.mk hn
  clear hn
  have HB := Aside0.mk (Below.refl w.heap.size w)
  go_enter Tryz.func14, Tryz.ntmps14
  go_upto_region 2 with (first
    | (go_at_call 20; ((with_reducible refine (laws_lwAll _).mono ?_); rintro e w' ⟨vl, rfl, hr, hb⟩; (try replace HX := Aside0.mk (HX.out.below hb)); (try replace HY := Aside0.mk (HY.out.below hb)); (try replace HF := Aside0.mk (HF.out.below hb)); (try replace HA := Aside0.mk (HA.out.below hb)); replace HB := Aside0.mk (bthen HB.out hb); have HA := Aside0.mk (Sl.of_R hr); clear hr hb)))
  obtain ⟨A3, c3, rfl, hc3, hC3⟩ := HA.out
  have hm3 := Kd.C_max hC3
  clear hC3
  generalize allTm = all at *
  go_wp2
  go_loopw [8] (fun i wr => ∃ k : Nat, k ≤ all.length ∧ i = .int .i64 k ∧ Aside0 (Sl kRw wr va a) ∧ Aside0 (Sl kRw wr vb b) ∧ Aside0 (Sl kTm wr (.slice Af n cf) f) ∧ Aside0 (Sl kTm wr (.slice A3 all.length c3) all) ∧ Aside0 (Below w.heap.size w wr)) (fun i _ => all.length - (intOf i).toNat)
  case atStart => exact ⟨0, Nat.zero_le _, rfl, HX, HY, HF, HA, HB⟩
  case round =>
    clear HX HY HF HA HB
    obtain ⟨k, hk, rfl, HX, HY, HF, HA, HB⟩ := hrel
    by_cases hlt : k < all.length
    · obtain ⟨A4, c4, e4, hc4, hC4⟩ := HA.out
      cases e4
      obtain ⟨ad, y, e, HYY, h0, h1⟩ := rdTm hC4 (Below.refl _ _) hlt
      cases e
      clear hC4
      have hask : (f = [] ∧ n = 0) ∨ (f ≠ [] ∧ 0 < n) := by
        cases f with
        | nil => exact .inl ⟨rfl, HN.out⟩
        | cons x f => exact .inr ⟨fun e => (by cases e), by rw [HN.out, List.length_cons]; omega⟩
      by_cases hgo : f = [] ∨ covers f y = true
      · have hy := HQ.out y (HOK.out y (List.mem_of_getElem? HYY.out)) hgo
        have q1 := decide_eq_true hy
        clear hy
        rcases hask with ⟨e0, e1⟩ | ⟨e0, e1⟩
        case' inl =>
          subst n
          go_upto_region 6 with fail
        case' inr =>
          have e2 : covers f y = true := hgo.resolve_left e0
          go_upto_region 6 with (first
            | (go_at_call 44; ((with_reducible refine (spec_FrontCovers (.slice Af n cf) f y.f0 y.f1 _ HF.out).mono ?_); rintro e w' ⟨rfl, hb⟩; (try replace HX := Aside0.mk (HX.out.below hb)); (try replace HY := Aside0.mk (HY.out.below hb)); (try replace HF := Aside0.mk (HF.out.below hb)); (try replace HA := Aside0.mk (HA.out.below hb)); replace HB := Aside0.mk (bthen HB.out hb); clear hb)))
        all_goals
          obtain ⟨A5, c5, e5, hc5, hC5⟩ := HA.out
          cases e5
          obtain ⟨ad5, y5, e5, HY5, h50, h51⟩ := rdTm hC5 (Below.refl _ _) hlt
          cases e5
          have ey := Option.some.inj (HY5.out.symm.trans HYY.out)
          subst y5
          clear hC5 h0 h1
          have d0 := pw_cell_below (below_drew (Below.refl _ _)) h50
          have d1 := pw_cell_below (below_drew (Below.refl _ _)) h51
          replace HX := Aside0.mk (HX.out.below (below_drew (Below.refl _ _)))
          replace HY := Aside0.mk (HY.out.below (below_drew (Below.refl _ _)))
          replace HF := Aside0.mk (HF.out.below (below_drew (Below.refl _ _)))
          replace HA := Aside0.mk (HA.out.below (below_drew (Below.refl _ _)))
          replace HB := Aside0.mk (below_drew HB.out)
          go_region_held3 (fun w' => w'.cell? (ad.add (k * 2)) = some (.int .i64 y.f0) ∧ w'.cell? ⟨(ad.add (k * 2)).block, (ad.add (k * 2)).off + 1, none⟩ = some (.int .i64 y.f1)) (first | exact ⟨h50, h51⟩ | exact ⟨d0, d1⟩)
            (first
            | (go_at_call 24; ((with_reducible refine (impl_BatchAt va a y _ HX.out).mono ?_); rintro e w' ⟨vc, rfl, hr, hb⟩; (try replace HX := Aside0.mk (HX.out.below hb)); (try replace HY := Aside0.mk (HY.out.below hb)); (try replace HF := Aside0.mk (HF.out.below hb)); (try replace HA := Aside0.mk (HA.out.below hb)); (try replace HC := Aside0.mk (HC.out.below hb)); (try replace HD := Aside0.mk (HD.out.below hb)); replace d0 := pw_cell_below hb d0; replace d1 := pw_cell_below hb d1; replace HB := Aside0.mk (bthen HB.out hb); have HC := Aside0.mk (Sl.of_R hr); clear hr hb))
            | (go_at_call 24; ((with_reducible refine (impl_BatchAt vb b y _ HY.out).mono ?_); rintro e w' ⟨vd, rfl, hr, hb⟩; (try replace HX := Aside0.mk (HX.out.below hb)); (try replace HY := Aside0.mk (HY.out.below hb)); (try replace HF := Aside0.mk (HF.out.below hb)); (try replace HA := Aside0.mk (HA.out.below hb)); (try replace HC := Aside0.mk (HC.out.below hb)); (try replace HD := Aside0.mk (HD.out.below hb)); replace d0 := pw_cell_below hb d0; replace d1 := pw_cell_below hb d1; replace HB := Aside0.mk (bthen HB.out hb); have HD := Aside0.mk (Sl.of_R hr); clear hr hb))
            | (go_at_call 22; ((with_reducible refine (laws_lwItems vc vd (batchAt a y) (batchAt b y) _ HC.out HD.out).mono ?_); rintro e w' ⟨rfl, hb⟩; (try replace HX := Aside0.mk (HX.out.below hb)); (try replace HY := Aside0.mk (HY.out.below hb)); (try replace HF := Aside0.mk (HF.out.below hb)); (try replace HA := Aside0.mk (HA.out.below hb)); (try replace HC := Aside0.mk (HC.out.below hb)); (try replace HD := Aside0.mk (HD.out.below hb)); replace d0 := pw_cell_below hb d0; replace d1 := pw_cell_below hb d1; replace HB := Aside0.mk (bthen HB.out hb); clear hb)))
          go_wp2
          go_roundw
          case rel => exact ⟨k + 1, by omega, by go_num, HX, HY, HF, HA, HB⟩
          case measure => simp [intOf]; omega
      · have e0 : f ≠ [] := fun e => hgo (.inl e)
        have e2 : covers f y = false := by cases h : covers f y; rfl; exact absurd (.inr h) hgo
        have e1 : 0 < n := by rcases hask with ⟨e, _⟩ | ⟨_, e⟩; exact absurd e e0; exact e
        go_wp2_with (first
          | (go_at_call 44; ((with_reducible refine (spec_FrontCovers (.slice Af n cf) f y.f0 y.f1 _ HF.out).mono ?_); rintro e w' ⟨rfl, hb⟩; (try replace HX := Aside0.mk (HX.out.below hb)); (try replace HY := Aside0.mk (HY.out.below hb)); (try replace HF := Aside0.mk (HF.out.below hb)); (try replace HA := Aside0.mk (HA.out.below hb)); replace HB := Aside0.mk (bthen HB.out hb); clear hb)))
        go_roundw
        case rel => exact ⟨k + 1, by omega, by go_num, HX, HY, HF, HA, HB⟩
        case measure => simp [intOf]; omega
    · go_wp2
      go_ret
      exact RetV.mk rfl HB.out
end Go.Proofs.YthljcnlmeefcjaaGreat.X
namespace Go.Proofs.YthljcnlmeefcjaaGreat.X
open Go.RowKit Go.Proofs.YthljcnlmeefcjaaGreatW.PrintWords
set_option linter.unusedVariables false
set_option linter.unusedSimpArgs false

theorem few_of40 {s : List Rw} (hs : rowsOk s = true) (hl : s.length ≤ 11) (hd : ∀ r ∈ s, dOk r) : FewR 40 12 s := by
  obtain ⟨h1, h2⟩ := rowsOk_all hs
  have hm : X.mass s ≤ 3 * s.length := mass_le (c := 3) fun r hr => by
    have h3 := hd r hr
    have h4 := rowOk_in (h2 r hr)
    unfold dOk at h3
    omega
  exact ⟨by omega, by omega, h2⟩
set_option maxRecDepth 100000 in
set_option maxHeartbeats 4000000 in
theorem laws_FnFlowSumMove (v v2 : Value) (l m : List Int) (w : World) (h : IsBytes w v l) (h2 : IsBytes w v2 m) : Calls Tryz.prog 3 #[v, v2] w (RetV w (.bool true)) := by
  have H := Aside0.mk h
  obtain ⟨⟨A, c, rfl, hc, hr⟩, hb⟩ := h
  have hm := Kd.C_max hr
  clear hr hb
  have H2 := Aside0.mk h2
  obtain ⟨⟨A2, c2, rfl, hc2, hr2⟩, hb2⟩ := h2
  have hm2 := Kd.C_max hr2
  clear hr2 hb2
  have HB := Aside0.mk (Below.refl w.heap.size w)
  go_enter Tryz.func3, Tryz.ntmps3
  by_cases hl : 1048576 < l.length
  · have hl' : (l.length : Int) > 1048576 := by omega
    go_wp2
    go_ret
    exact RetV.mk rfl HB.out
  have hl' : ¬ (l.length : Int) > 1048576 := by omega
  by_cases hl2 : 1048576 < m.length
  · have hl2' : (m.length : Int) > 1048576 := by omega
    go_wp2
    go_ret
    exact RetV.mk rfl HB.out
  have hl2' : ¬ (m.length : Int) > 1048576 := by omega
  go_upto_region 5 with (first
    | (go_at_call 7; ((with_reducible refine (spec_DrawFlowSum (.slice A l.length c) l w H.out.sl H.out.by_).mono ?_); rintro e wa ⟨vs, s, kind, rfl, h1, hls, h3, h4, h5⟩; have HS := Aside0.mk h1; have DS := Aside0.mk h3; replace HB := Aside0.mk h5; clear h1 h3 h4 h5))
    | (go_at_call 8; ((with_reducible refine (spec_DrawBatchMove (.slice A2 m.length c2) m wa (H2.out.below HB.out).sl H2.out.by_).mono ?_); rintro e wb ⟨vu, vf, u, f, rfl, h1, h2, h3, h4, h5⟩; have HF := Aside0.mk h3; replace HS := Aside0.mk (HS.out.below h5); replace HB := Aside0.mk (bthen HB.out h5); clear h1 h2 h3 h4 h5)))
  have q0 : decide (flowSum s kind = flowSum s kind) = true := decide_eq_true rfl
  by_cases hgo : rowsOk s = true ∧ frontOk f = true
  · obtain ⟨hs, hf⟩ := hgo
    have K := flowSum_move (kind := kind) hs hf (few_of40 hs hls DS.out)
    go_wp2_with (first
      | (go_at_call 9; ((with_reducible refine (impl_FlowSum vs s kind _ HS.out).mono ?_); rintro e w' ⟨vx, rfl, hr, hb⟩; (try replace HS := Aside0.mk (HS.out.below hb)); (try replace HF := Aside0.mk (HF.out.below hb)); (try replace HX := Aside0.mk (HX.out.below hb)); (try replace HY := Aside0.mk (HY.out.below hb)); (try replace HA := Aside0.mk (HA.out.below hb)); (try replace HD := Aside0.mk (HD.out.below hb)); replace HB := Aside0.mk (bthen HB.out hb); have HX := Aside0.mk (Sl.of_R hr); clear hr hb))
      | (go_at_call 11; ((with_reducible refine (spec_FlowSum vs s kind _ HS.out).mono ?_); rintro e w' ⟨vy, rfl, hr, hb⟩; (try replace HS := Aside0.mk (HS.out.below hb)); (try replace HF := Aside0.mk (HF.out.below hb)); (try replace HX := Aside0.mk (HX.out.below hb)); (try replace HY := Aside0.mk (HY.out.below hb)); (try replace HA := Aside0.mk (HA.out.below hb)); (try replace HD := Aside0.mk (HD.out.below hb)); replace HB := Aside0.mk (bthen HB.out hb); have HY := Aside0.mk hr; clear hr hb))
      | (go_at_call 10; ((with_reducible refine (laws_lwRows vx vy (flowSum s kind) (flowSum s kind) _ HX.out HY.out).mono ?_); rintro e w' ⟨rfl, hb⟩; (try replace HS := Aside0.mk (HS.out.below hb)); (try replace HF := Aside0.mk (HF.out.below hb)); (try replace HX := Aside0.mk (HX.out.below hb)); (try replace HY := Aside0.mk (HY.out.below hb)); (try replace HA := Aside0.mk (HA.out.below hb)); (try replace HD := Aside0.mk (HD.out.below hb)); replace HB := Aside0.mk (bthen HB.out hb); clear hb))
      | (go_at_call 12; ((with_reducible refine (spec_RowsOk vs s _ HS.out).mono ?_); rintro e w' ⟨rfl, hb⟩; (try replace HS := Aside0.mk (HS.out.below hb)); (try replace HF := Aside0.mk (HF.out.below hb)); (try replace HX := Aside0.mk (HX.out.below hb)); (try replace HY := Aside0.mk (HY.out.below hb)); (try replace HA := Aside0.mk (HA.out.below hb)); (try replace HD := Aside0.mk (HD.out.below hb)); replace HB := Aside0.mk (bthen HB.out hb); clear hb))
      | (go_at_call 13; ((with_reducible refine (spec_FrontOk vf f _ HF.out).mono ?_); rintro e w' ⟨rfl, hb⟩; (try replace HS := Aside0.mk (HS.out.below hb)); (try replace HF := Aside0.mk (HF.out.below hb)); (try replace HX := Aside0.mk (HX.out.below hb)); (try replace HY := Aside0.mk (HY.out.below hb)); (try replace HA := Aside0.mk (HA.out.below hb)); (try replace HD := Aside0.mk (HD.out.below hb)); replace HB := Aside0.mk (bthen HB.out hb); clear hb))
      | (go_at_call 15; ((with_reducible refine (impl_BatchMove vs vf s f _ HS.out HF.out).mono ?_); rintro e w' ⟨va, rfl, hr, hb⟩; (try replace HS := Aside0.mk (HS.out.below hb)); (try replace HF := Aside0.mk (HF.out.below hb)); (try replace HX := Aside0.mk (HX.out.below hb)); (try replace HY := Aside0.mk (HY.out.below hb)); (try replace HA := Aside0.mk (HA.out.below hb)); (try replace HD := Aside0.mk (HD.out.below hb)); replace HB := Aside0.mk (bthen HB.out hb); have HA := Aside0.mk (Sl.of_R hr); clear hr hb))
      | (go_at_call 9; ((with_reducible refine (impl_FlowSum va (batchMove s f) kind _ HA.out).mono ?_); rintro e w' ⟨vd, rfl, hr, hb⟩; (try replace HS := Aside0.mk (HS.out.below hb)); (try replace HF := Aside0.mk (HF.out.below hb)); (try replace HX := Aside0.mk (HX.out.below hb)); (try replace HY := Aside0.mk (HY.out.below hb)); (try replace HA := Aside0.mk (HA.out.below hb)); (try replace HD := Aside0.mk (HD.out.below hb)); replace HB := Aside0.mk (bthen HB.out hb); have HD := Aside0.mk (Sl.of_R hr); clear hr hb))
      | (go_at_call 14; ((with_reducible refine (laws_lwSame vx vd vf (flowSum s kind) (flowSum (batchMove s f) kind) f _ HX.out HD.out HF.out K).mono ?_); rintro e w' ⟨rfl, hb⟩; (try replace HS := Aside0.mk (HS.out.below hb)); (try replace HF := Aside0.mk (HF.out.below hb)); (try replace HX := Aside0.mk (HX.out.below hb)); (try replace HY := Aside0.mk (HY.out.below hb)); (try replace HA := Aside0.mk (HA.out.below hb)); (try replace HD := Aside0.mk (HD.out.below hb)); replace HB := Aside0.mk (bthen HB.out hb); clear hb)))
    go_ret
    exact RetV.mk rfl HB.out
  · have hbad : rowsOk s = false ∨ (rowsOk s = true ∧ frontOk f = false) := by
      cases h1 : rowsOk s <;> cases h3 : frontOk f <;> simp_all
    rcases hbad with hs | ⟨hs, hu⟩
    all_goals
      go_wp2_with (first
        | (go_at_call 9; ((with_reducible refine (impl_FlowSum vs s kind _ HS.out).mono ?_); rintro e w' ⟨vx, rfl, hr, hb⟩; (try replace HS := Aside0.mk (HS.out.below hb)); (try replace HF := Aside0.mk (HF.out.below hb)); (try replace HX := Aside0.mk (HX.out.below hb)); (try replace HY := Aside0.mk (HY.out.below hb)); replace HB := Aside0.mk (bthen HB.out hb); have HX := Aside0.mk (Sl.of_R hr); clear hr hb))
        | (go_at_call 11; ((with_reducible refine (spec_FlowSum vs s kind _ HS.out).mono ?_); rintro e w' ⟨vy, rfl, hr, hb⟩; (try replace HS := Aside0.mk (HS.out.below hb)); (try replace HF := Aside0.mk (HF.out.below hb)); (try replace HX := Aside0.mk (HX.out.below hb)); (try replace HY := Aside0.mk (HY.out.below hb)); replace HB := Aside0.mk (bthen HB.out hb); have HY := Aside0.mk hr; clear hr hb))
        | (go_at_call 10; ((with_reducible refine (laws_lwRows vx vy (flowSum s kind) (flowSum s kind) _ HX.out HY.out).mono ?_); rintro e w' ⟨rfl, hb⟩; (try replace HS := Aside0.mk (HS.out.below hb)); (try replace HF := Aside0.mk (HF.out.below hb)); (try replace HX := Aside0.mk (HX.out.below hb)); (try replace HY := Aside0.mk (HY.out.below hb)); replace HB := Aside0.mk (bthen HB.out hb); clear hb))
        | (go_at_call 12; ((with_reducible refine (spec_RowsOk vs s _ HS.out).mono ?_); rintro e w' ⟨rfl, hb⟩; (try replace HS := Aside0.mk (HS.out.below hb)); (try replace HF := Aside0.mk (HF.out.below hb)); (try replace HX := Aside0.mk (HX.out.below hb)); (try replace HY := Aside0.mk (HY.out.below hb)); replace HB := Aside0.mk (bthen HB.out hb); clear hb))
        | (go_at_call 13; ((with_reducible refine (spec_FrontOk vf f _ HF.out).mono ?_); rintro e w' ⟨rfl, hb⟩; (try replace HS := Aside0.mk (HS.out.below hb)); (try replace HF := Aside0.mk (HF.out.below hb)); (try replace HX := Aside0.mk (HX.out.below hb)); (try replace HY := Aside0.mk (HY.out.below hb)); replace HB := Aside0.mk (bthen HB.out hb); clear hb)))
      go_ret
      exact RetV.mk rfl HB.out
end Go.Proofs.YthljcnlmeefcjaaGreat.X
