/- The walk of what says whether rows say the same at a front, or behind it. Conditions: they do. -/
import Derived.Test.YthljcnlmeefcjaaYMPlH
import Derived.Test.YthljcnlmeefcjaaYMLw
import Derived.Test.YthljcnlmeefcjaaYMFt
import Derived.RegionTactic
import Derived.BigRegion
namespace Go.Proofs.Ythljcnlmeefcjaa.X
open Go.RowKit Go.Proofs.YthljcnlmeefcjaaW.PrintWords
set_option linter.unusedVariables false
set_option linter.unusedSimpArgs false

set_option maxRecDepth 100000 in
set_option maxHeartbeats 4000000 in
theorem laws_lwSame (va vb vf : Value) (a b : List Rw) (f : List Tm) (w : World) (h1 : Sl kRw w va a) (h2 : Sl kRw w vb b) (h3 : Sl kTm w vf f) (hq : ∀ t, tOk t = true → (f = [] ∨ covers f t = true) → batchAt a t = batchAt b t) :
    Calls Try.prog 80 #[va, vb, vf] w (RetV w (.bool true)) := by
  have HOK := Aside0.mk allTm_ok
  have HQ := Aside0.mk hq
  have HX := Aside0.mk h1
  have HY := Aside0.mk h2
  have HF := Aside0.mk h3
  obtain ⟨Af, cf, rfl, hcf, hCf⟩ := h3
  have hmf := Kd.C_max hCf
  clear h1 h2 hq hCf
  obtain ⟨n, hn⟩ : ∃ n, n = f.length := ⟨_, rfl⟩
  rw [← hn] at HF hcf hmf ⊢
  have HN := Aside0.mk hn
  clear hn
  have HB := Aside0.mk (Below.refl w.heap.size w)
  go_enter Try.func80, Try.ntmps80
  go_upto_region 2 with (first
    | (go_at_call 89; ((with_reducible refine (laws_lwAll _).mono ?_); rintro e w' ⟨vl, rfl, hr, hb⟩; (try replace HX := Aside0.mk (HX.out.below hb)); (try replace HY := Aside0.mk (HY.out.below hb)); (try replace HF := Aside0.mk (HF.out.below hb)); (try replace HA := Aside0.mk (HA.out.below hb)); replace HB := Aside0.mk (bthen HB.out hb); have HA := Aside0.mk (Sl.of_R hr); clear hr hb)))
  obtain ⟨A3, c3, rfl, hc3, hC3⟩ := HA.out
  have hm3 := Kd.C_max hC3
  clear hC3
  generalize allTm = all at *
  go_wp2
  go_loopw [8] (fun i wr => ∃ k : Nat, k ≤ all.length ∧ i = .int .i64 k ∧ Aside0 (Sl kRw wr va a) ∧ Aside0 (Sl kRw wr vb b) ∧ Aside0 (Sl kTm wr (.slice Af n cf) f) ∧ Aside0 (Sl kTm wr (.slice A3 all.length c3) all) ∧ Aside0 (Below w.heap.size w wr)) (fun i _ => all.length - (intOf i).toNat)
  case atStart => exact ⟨0, Nat.zero_le _, rfl, HX, HY, HF, HA, HB⟩
  case round =>
    clear HX HY HF HA HB
    obtain ⟨k, hk, rfl, HX, HY, HF, HA, HB⟩ := hrel
    by_cases hlt : k < all.length
    · obtain ⟨A4, c4, e4, hc4, hC4⟩ := HA.out
      cases e4
      obtain ⟨ad, y, e, HYY, h0, h1⟩ := rdTm hC4 (Below.refl _ _) hlt
      cases e
      clear hC4
      have hask : (f = [] ∧ n = 0) ∨ (f ≠ [] ∧ 0 < n) := by
        cases f with
        | nil => exact .inl ⟨rfl, HN.out⟩
        | cons x f => exact .inr ⟨fun e => (by cases e), by rw [HN.out, List.length_cons]; omega⟩
      by_cases hgo : f = [] ∨ covers f y = true
      · have hy := HQ.out y (HOK.out y (List.mem_of_getElem? HYY.out)) hgo
        have q1 := decide_eq_true hy
        clear hy
        rcases hask with ⟨e0, e1⟩ | ⟨e0, e1⟩
        case' inl =>
          subst n
          go_upto_region 6 with fail
        case' inr =>
          have e2 : covers f y = true := hgo.resolve_left e0
          go_upto_region 6 with (first
            | (go_at_call 126; ((with_reducible refine (spec_FrontCovers (.slice Af n cf) f y.f0 y.f1 _ HF.out).mono ?_); rintro e w' ⟨rfl, hb⟩; (try replace HX := Aside0.mk (HX.out.below hb)); (try replace HY := Aside0.mk (HY.out.below hb)); (try replace HF := Aside0.mk (HF.out.below hb)); (try replace HA := Aside0.mk (HA.out.below hb)); replace HB := Aside0.mk (bthen HB.out hb); clear hb)))
        all_goals
          obtain ⟨A5, c5, e5, hc5, hC5⟩ := HA.out
          cases e5
          obtain ⟨ad5, y5, e5, HY5, h50, h51⟩ := rdTm hC5 (Below.refl _ _) hlt
          cases e5
          have ey := Option.some.inj (HY5.out.symm.trans HYY.out)
          subst y5
          clear hC5 h0 h1
          have d0 := pw_cell_below (below_drew (Below.refl _ _)) h50
          have d1 := pw_cell_below (below_drew (Below.refl _ _)) h51
          replace HX := Aside0.mk (HX.out.below (below_drew (Below.refl _ _)))
          replace HY := Aside0.mk (HY.out.below (below_drew (Below.refl _ _)))
          replace HF := Aside0.mk (HF.out.below (below_drew (Below.refl _ _)))
          replace HA := Aside0.mk (HA.out.below (below_drew (Below.refl _ _)))
          replace HB := Aside0.mk (below_drew HB.out)
          go_region_held3 (fun w' => w'.cell? (ad.add (k * 2)) = some (.int .i64 y.f0) ∧ w'.cell? ⟨(ad.add (k * 2)).block, (ad.add (k * 2)).off + 1, none⟩ = some (.int .i64 y.f1)) (first | exact ⟨h50, h51⟩ | exact ⟨d0, d1⟩)
            (first
            | (go_at_call 90; ((with_reducible refine (impl_BatchAt va a y _ HX.out).mono ?_); rintro e w' ⟨vc, rfl, hr, hb⟩; (try replace HX := Aside0.mk (HX.out.below hb)); (try replace HY := Aside0.mk (HY.out.below hb)); (try replace HF := Aside0.mk (HF.out.below hb)); (try replace HA := Aside0.mk (HA.out.below hb)); (try replace HC := Aside0.mk (HC.out.below hb)); (try replace HD := Aside0.mk (HD.out.below hb)); replace d0 := pw_cell_below hb d0; replace d1 := pw_cell_below hb d1; replace HB := Aside0.mk (bthen HB.out hb); have HC := Aside0.mk (Sl.of_R hr); clear hr hb))
            | (go_at_call 90; ((with_reducible refine (impl_BatchAt vb b y _ HY.out).mono ?_); rintro e w' ⟨vd, rfl, hr, hb⟩; (try replace HX := Aside0.mk (HX.out.below hb)); (try replace HY := Aside0.mk (HY.out.below hb)); (try replace HF := Aside0.mk (HF.out.below hb)); (try replace HA := Aside0.mk (HA.out.below hb)); (try replace HC := Aside0.mk (HC.out.below hb)); (try replace HD := Aside0.mk (HD.out.below hb)); replace d0 := pw_cell_below hb d0; replace d1 := pw_cell_below hb d1; replace HB := Aside0.mk (bthen HB.out hb); have HD := Aside0.mk (Sl.of_R hr); clear hr hb))
            | (go_at_call 82; ((with_reducible refine (laws_lwItems vc vd (batchAt a y) (batchAt b y) _ HC.out HD.out).mono ?_); rintro e w' ⟨rfl, hb⟩; (try replace HX := Aside0.mk (HX.out.below hb)); (try replace HY := Aside0.mk (HY.out.below hb)); (try replace HF := Aside0.mk (HF.out.below hb)); (try replace HA := Aside0.mk (HA.out.below hb)); (try replace HC := Aside0.mk (HC.out.below hb)); (try replace HD := Aside0.mk (HD.out.below hb)); replace d0 := pw_cell_below hb d0; replace d1 := pw_cell_below hb d1; replace HB := Aside0.mk (bthen HB.out hb); clear hb)))
          go_wp2
          go_roundw
          case rel => exact ⟨k + 1, by omega, by go_num, HX, HY, HF, HA, HB⟩
          case measure => simp [intOf]; omega
      · have e0 : f ≠ [] := fun e => hgo (.inl e)
        have e2 : covers f y = false := by cases h : covers f y; rfl; exact absurd (.inr h) hgo
        have e1 : 0 < n := by rcases hask with ⟨e, _⟩ | ⟨_, e⟩; exact absurd e e0; exact e
        go_wp2_with (first
          | (go_at_call 126; ((with_reducible refine (spec_FrontCovers (.slice Af n cf) f y.f0 y.f1 _ HF.out).mono ?_); rintro e w' ⟨rfl, hb⟩; (try replace HX := Aside0.mk (HX.out.below hb)); (try replace HY := Aside0.mk (HY.out.below hb)); (try replace HF := Aside0.mk (HF.out.below hb)); (try replace HA := Aside0.mk (HA.out.below hb)); replace HB := Aside0.mk (bthen HB.out hb); clear hb)))
        go_roundw
        case rel => exact ⟨k + 1, by omega, by go_num, HX, HY, HF, HA, HB⟩
        case measure => simp [intOf]; omega
    · go_wp2
      go_ret
      exact RetV.mk rfl HB.out
end Go.Proofs.Ythljcnlmeefcjaa.X

