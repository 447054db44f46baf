/- Conditions: none. -/
import Derived.Test.YtkdendlgaaimbaaYQPsW
import Derived.Test.YtkdendlgaaimbaaYQPsV
namespace Go.Proofs.Ytkdendlgaaimbaa.X
open Go.RowKit Go.Proofs.YtkdendlgaaimbaaW.PrintWords
set_option linter.unusedVariables false
set_option linter.unusedSimpArgs false
def planSet (x : Pn) (ins : List (List It)) : Option (List It) := if planOk x && decide (ins.length = 2) && ins.all setOk then setP ins x else none
theorem planSet_plan {x : Pn} {ins : List (List It)} (h : planOk x = false) : planSet x ins = none := by unfold planSet; rw [h]; rfl
theorem planSet_len {x : Pn} {ins : List (List It)} (h : ins.length ≠ 2) : planSet x ins = none := by unfold planSet; rw [decide_eq_false h, Bool.and_false]; rfl
theorem planSet_in {x : Pn} {ins : List (List It)} {k : Nat} {s : List It} (hx : ins[k]? = some s) (h : setOk s = false) : planSet x ins = none := by
 unfold planSet
 have : ins.all setOk = false := by
  rw [List.all_eq_false]
  exact ⟨s, List.mem_of_getElem? hx, by rw [h]; decide⟩
 rw [this, Bool.and_false]; rfl
theorem planSet_all {x : Pn} {ins : List (List It)} (h : planOk x = true) (hl : ins.length = 2) (hs : ∀ s ∈ ins, setOk s = true) : planSet x ins = setP ins x := by
 unfold planSet
 rw [h, decide_eq_true hl, List.all_eq_true.2 hs]; rfl
theorem all_next {ins : List (List It)} {k : Nat} {s : List It} (hx : ins[k]? = some s) (h : ∀ y ∈ ins.take k, setOk y = true) (hs : setOk s = true) : ∀ y ∈ ins.take (k + 1), setOk y = true := by
 rw [take_snoc hx]
 intro y hy
 rcases List.mem_append.1 hy with hy | hy
 ·exact h y hy
 ·rw [List.mem_singleton.1 hy]; exact hs
def PlQ (w : World) (l : List It) (b : Bool) (e : Ending) (w' : World) : Prop := ∃ v, e = .returned (.tuple #[v, .bool b]) ∧ kIt.R 118 w' w.heap.size okT v l ∧ Below w.heap.size w w'
theorem PlQ.no {w w' : World} {o : Option (List It)} {v : Value} (h : o = none) (hr : kIt.R 118 w' w.heap.size okT v []) (hb : Below w.heap.size w w') : PlQ w (o.getD []) o.isSome (.returned (.tuple #[v, .bool false])) w' := ⟨v, by rw [h]; rfl, by rw [h]; exact hr, hb⟩
theorem PlQ.yes {w w' : World} {o : Option (List It)} {v : Value} {l : List It} (h : o = some l) (hr : kIt.R 118 w' w.heap.size okT v l) (hb : Below w.heap.size w w') : PlQ w (o.getD []) o.isSome (.returned (.tuple #[v, .bool true])) w' := ⟨v, by rw [h]; rfl, by rw [h]; exact hr, hb⟩
set_option maxRecDepth 100000 in
set_option maxHeartbeats 4000000 in
theorem impl_PlanSet (x : Pn) (v v2 : Value) (ins : List (List It)) (w : World) (h : Sl kPn w v x.f2) (h2 : Sl (Kd.slice 118 kIt) w v2 ins) : Calls Try.prog 42 #[.agg #[.int .i64 x.f0, .int .i64 x.f1, v], v2] w (PlQ w ((planSet x ins).getD []) (planSet x ins).isSome) := by
 have HS := Aside0.mk h
 have HV2 := Aside0.mk h2
 obtain ⟨A2, c2, rfl, hc2, hr2⟩ := h2
 have hm2 := Kd.C_max hr2
 have HS2 := Aside0.mk hr2
 obtain ⟨A, c, rfl, hc, hr⟩ := h
 clear hr hr2
 have HPO := Aside0.mk (fun v W h => impl_PlanOk x v W h)
 obtain ⟨ok, hok⟩ : ∃ ok, ok = planOk x := ⟨_, rfl⟩
 have HOK := Aside0.mk hok
 rw [← hok] at HPO
 clear hok
 go_enter Try.func42, Try.ntmps42
 go_upto_region 1 with fail
 refine name_world fun W0 hW0 => ?_
 have hb0 : Below w.heap.size w W0 := hW0 ▸ below_alloc (Below.refl _ _) _
 have B0 : W0.cell? ⟨w.heap.size, 0, none⟩ = some (.int .i64 x.f0) := by rw [hW0]; simp
 have B1 : W0.cell? ⟨w.heap.size, 1, none⟩ = some (.int .i64 x.f1) := by rw [hW0]; simp
 have B2 : W0.cell? ⟨w.heap.size, 2, none⟩ = some (.slice A x.f2.length c) := by rw [hW0]; simp
 clear hW0
 obtain ⟨K, hK⟩ : ∃ K, K = w.heap.size := ⟨_, rfl⟩
 rw [← hK] at B0 B1 B2 ⊢
 have HW := Aside0.mk hb0
 have HB := Aside0.mk (Below.refl W0.heap.size W0)
 clear hb0 hK
 cases ok with
 | false =>
  go_wp2_with (go_at_call 105; ((with_reducible refine (HPO.out _ _ (HS.out.below (bthen HW.out HB.out))).mono ?_); rintro e w2 ⟨rfl, hb⟩; replace HB := Aside0.mk (bthen HB.out hb); clear hb))
  go_ret2
  exact PlQ.no (planSet_plan HOK.out.symm) (Kd.R_nil _ _ _ _ _) (bthen HW.out HB.out)
 | true =>
  by_cases hin : ins.length = 2
  case neg =>
   have hin2 : ¬ (ins.length : Int) = 2 := by omega
   have HIN := Aside0.mk hin
   clear hin
   go_wp2_with (go_at_call 105; ((with_reducible refine (HPO.out _ _ (HS.out.below (bthen HW.out HB.out))).mono ?_); rintro e w2 ⟨rfl, hb⟩; replace HB := Aside0.mk (bthen HB.out hb); clear hb))
   go_ret2
   exact PlQ.no (planSet_len HIN.out) (Kd.R_nil _ _ _ _ _) (bthen HW.out HB.out)
  case pos =>
   have hin2 : (ins.length : Int) = 2 := by omega
   have HIN := Aside0.mk hin
   clear hin
   go_upto_region 3 with (go_at_call 105; ((with_reducible refine (HPO.out _ _ (HS.out.below (bthen HW.out HB.out))).mono ?_); rintro e w2 ⟨rfl, hb⟩; replace HB := Aside0.mk (bthen HB.out hb); clear hb))
   clear hin2
   go_wp2
   go_loopw [20] (fun i wr => ∃ (k : Nat), k ≤ ins.length ∧ i = .int .i64 k ∧ Aside0 (∀ s ∈ ins.take k, setOk s = true) ∧ Aside0 (Below W0.heap.size W0 wr)) (fun i _ => ins.length - (intOf i).toNat)
   case atStart => exact ⟨0, Nat.zero_le _, rfl, ⟨by simp⟩, HB⟩
   case round =>
    clear HB
    obtain ⟨k, hk, rfl, HE, HB⟩ := hrel
    by_cases hlt : k < ins.length
    ·obtain ⟨ad, s, B, d2, e, HX, p0, HKx⟩ := rdSl HS2.out (bthen HW.out HB.out) hlt
     cases e
     cases hs : setOk s
     ·have HSO := Aside0.mk hs
      go_wp2_with (go_at_call 43; ((with_reducible refine (impl_SetOk _ s _ HKx.out).mono ?_); rintro e w2 ⟨rfl, hb⟩; replace HB := Aside0.mk (bthen HB.out hb); clear hb))
      go_ret2
      exact PlQ.no (planSet_in HX.out HSO.out) (Kd.R_nil _ _ _ _ _) (bthen HW.out HB.out)
     ·have HSO := Aside0.mk hs
      go_wp2_with (go_at_call 43; ((with_reducible refine (impl_SetOk _ s _ HKx.out).mono ?_); rintro e w2 ⟨rfl, hb⟩; replace HB := Aside0.mk (bthen HB.out hb); clear hb))
      go_roundw
      case rel => exact ⟨k + 1, by omega, by go_num, ⟨all_next HX.out HE.out HSO.out⟩, HB⟩
      case measure => simp [intOf]; omega
    ·have ek : k = ins.length := by omega
     subst ek
     rw [List.take_length] at HE
     have ex : (⟨x.f0, x.f1, x.f2⟩ : Pn) = x := by cases x; rfl
     have HQ := Aside0.mk (planSet_all HOK.out.symm HIN.out HE.out)
     have HC := Aside0.mk (fun v v2 w h h2 => by have := impl_planSet_d 4 x.f0 x.f1 x.f2 HOK.out.symm v v2 ins w h h2 HIN.out HE.out; rw [ex, ← HQ.out] at this; exact this)
     have b0 := pw_cell_below HB.out B0
     have b1 := pw_cell_below HB.out B1
     have b2 := pw_cell_below HB.out B2
     clear ex
     generalize planSet x ins = o at *
     cases o with
     | none =>
      go_wp2_with (go_at_call 106; ((with_reducible refine (HC.out _ _ _ (HS.out.below (bthen HW.out HB.out)) (HV2.out.below (bthen HW.out HB.out))).mono ?_); rintro e w2 ⟨vk, rfl, hk2, hb2⟩; replace HB := Aside0.mk (bthen HB.out hb2); clear hk2 hb2))
      go_ret2
      exact PlQ.no rfl (Kd.R_nil _ _ _ _ _) (bthen HW.out HB.out)
     | some ys =>
      go_wp2_with (go_at_call 106; ((with_reducible refine (HC.out _ _ _ (HS.out.below (bthen HW.out HB.out)) (HV2.out.below (bthen HW.out HB.out))).mono ?_); rintro e w2 ⟨vk, rfl, hk2, hb2⟩; have HF := Aside0.mk (Kd.R_lower (hk2 ys rfl) HB.out.size); replace HB := Aside0.mk (bthen HB.out hb2); clear hk2 hb2))
      go_ret2
      exact PlQ.yes rfl (Kd.R_lower HF.out HW.out.size) (bthen HW.out HB.out)
set_option maxRecDepth 100000 in
set_option maxHeartbeats 4000000 in
theorem spec_PlanSet (x : Pn) (v v2 : Value) (ins : List (List It)) (w : World) (h : Sl kPn w v x.f2) (h2 : Sl (Kd.slice 118 kIt) w v2 ins) : Calls Try.prog 41 #[.agg #[.int .i64 x.f0, .int .i64 x.f1, v], v2] w (PlQ w ((planSet x ins).getD []) (planSet x ins).isSome) := by
 have HS := Aside0.mk h
 have HV2 := Aside0.mk h2
 obtain ⟨A2, c2, rfl, hc2, hr2⟩ := h2
 have hm2 := Kd.C_max hr2
 have HS2 := Aside0.mk hr2
 obtain ⟨A, c, rfl, hc, hr⟩ := h
 clear hr hr2
 have HPO := Aside0.mk (fun v W h => spec_PlanOk x v W h)
 obtain ⟨ok, hok⟩ : ∃ ok, ok = planOk x := ⟨_, rfl⟩
 have HOK := Aside0.mk hok
 rw [← hok] at HPO
 clear hok
 go_enter Try.func41, Try.ntmps41
 go_upto_region 1 with fail
 refine name_world fun W0 hW0 => ?_
 have hb0 : Below w.heap.size w W0 := hW0 ▸ below_alloc (Below.refl _ _) _
 have B0 : W0.cell? ⟨w.heap.size, 0, none⟩ = some (.int .i64 x.f0) := by rw [hW0]; simp
 have B1 : W0.cell? ⟨w.heap.size, 1, none⟩ = some (.int .i64 x.f1) := by rw [hW0]; simp
 have B2 : W0.cell? ⟨w.heap.size, 2, none⟩ = some (.slice A x.f2.length c) := by rw [hW0]; simp
 clear hW0
 obtain ⟨K, hK⟩ : ∃ K, K = w.heap.size := ⟨_, rfl⟩
 rw [← hK] at B0 B1 B2 ⊢
 have HW := Aside0.mk hb0
 have HB := Aside0.mk (Below.refl W0.heap.size W0)
 clear hb0 hK
 cases ok with
 | false =>
  go_wp2_with (go_at_call 102; ((with_reducible refine (HPO.out _ _ (HS.out.below (bthen HW.out HB.out))).mono ?_); rintro e w2 ⟨rfl, hb⟩; replace HB := Aside0.mk (bthen HB.out hb); clear hb))
  go_ret2
  exact PlQ.no (planSet_plan HOK.out.symm) (R_none (blk_new _ _) (bthen HW.out HB.out).size trivial) (below_alloc (bthen HW.out HB.out) (.cells #[] 118))
 | true =>
  by_cases hin : ins.length = 2
  case neg =>
   have hin2 : ¬ (ins.length : Int) = 2 := by omega
   have HIN := Aside0.mk hin
   clear hin
   go_wp2_with (go_at_call 102; ((with_reducible refine (HPO.out _ _ (HS.out.below (bthen HW.out HB.out))).mono ?_); rintro e w2 ⟨rfl, hb⟩; replace HB := Aside0.mk (bthen HB.out hb); clear hb))
   go_ret2
   exact PlQ.no (planSet_len HIN.out) (R_none (blk_new _ _) (bthen HW.out HB.out).size trivial) (below_alloc (bthen HW.out HB.out) (.cells #[] 118))
  case pos =>
   have hin2 : (ins.length : Int) = 2 := by omega
   have HIN := Aside0.mk hin
   clear hin
   go_upto_region 3 with (go_at_call 102; ((with_reducible refine (HPO.out _ _ (HS.out.below (bthen HW.out HB.out))).mono ?_); rintro e w2 ⟨rfl, hb⟩; replace HB := Aside0.mk (bthen HB.out hb); clear hb))
   clear hin2
   go_wp2
   go_loopw [6] (fun i wr => ∃ (k : Nat), k ≤ ins.length ∧ i = .int .i64 k ∧ Aside0 (∀ s ∈ ins.take k, setOk s = true) ∧ Aside0 (Below W0.heap.size W0 wr)) (fun i _ => ins.length - (intOf i).toNat)
   case atStart => exact ⟨0, Nat.zero_le _, rfl, ⟨by simp⟩, HB⟩
   case round =>
    clear HB
    obtain ⟨k, hk, rfl, HE, HB⟩ := hrel
    by_cases hlt : k < ins.length
    ·obtain ⟨ad, s, B, d2, e, HX, p0, HKx⟩ := rdSl HS2.out (bthen HW.out HB.out) hlt
     cases e
     cases hs : setOk s
     ·have HSO := Aside0.mk hs
      go_wp2_with (go_at_call 103; ((with_reducible refine (spec_SetOk _ s _ HKx.out).mono ?_); rintro e w2 ⟨rfl, hb⟩; replace HB := Aside0.mk (bthen HB.out hb); clear hb))
      go_ret2
      exact PlQ.no (planSet_in HX.out HSO.out) (R_none (blk_new _ _) (bthen HW.out HB.out).size trivial) (below_alloc (bthen HW.out HB.out) (.cells #[] 118))
     ·have HSO := Aside0.mk hs
      go_wp2_with (go_at_call 103; ((with_reducible refine (spec_SetOk _ s _ HKx.out).mono ?_); rintro e w2 ⟨rfl, hb⟩; replace HB := Aside0.mk (bthen HB.out hb); clear hb))
      go_roundw
      case rel => exact ⟨k + 1, by omega, by go_num, ⟨all_next HX.out HE.out HSO.out⟩, HB⟩
      case measure => simp [intOf]; omega
    ·have ek : k = ins.length := by omega
     subst ek
     rw [List.take_length] at HE
     have ex : (⟨x.f0, x.f1, x.f2⟩ : Pn) = x := by cases x; rfl
     have HQ := Aside0.mk (planSet_all HOK.out.symm HIN.out HE.out)
     have HC := Aside0.mk (fun v v2 w h h2 => by have := spec_planSet_d 4 x.f0 x.f1 x.f2 HOK.out.symm v v2 ins w h h2 HIN.out HE.out; rw [ex, ← HQ.out] at this; exact this)
     have b0 := pw_cell_below HB.out B0
     have b1 := pw_cell_below HB.out B1
     have b2 := pw_cell_below HB.out B2
     clear ex
     generalize planSet x ins = o at *
     cases o with
     | none =>
      go_wp2_with (go_at_call 104; ((with_reducible refine (HC.out _ _ _ (HS.out.below (bthen HW.out HB.out)) (HV2.out.below (bthen HW.out HB.out))).mono ?_); rintro e w2 ⟨vk, rfl, hk2, hb2⟩; replace HB := Aside0.mk (bthen HB.out hb2); clear hk2 hb2))
      go_ret2
      exact PlQ.no rfl (R_none (blk_new _ _) (bthen HW.out HB.out).size trivial) (below_alloc (bthen HW.out HB.out) (.cells #[] 118))
     | some ys =>
      go_wp2_with (go_at_call 104; ((with_reducible refine (HC.out _ _ _ (HS.out.below (bthen HW.out HB.out)) (HV2.out.below (bthen HW.out HB.out))).mono ?_); rintro e w2 ⟨vk, rfl, hk2, hb2⟩; have HF := Aside0.mk (Kd.R_lower (hk2 ys rfl) HB.out.size); replace HB := Aside0.mk (bthen HB.out hb2); clear hk2 hb2))
      go_ret2
      exact PlQ.yes rfl (Kd.R_lower HF.out HW.out.size) (bthen HW.out HB.out)
end Go.Proofs.Ytkdendlgaaimbaa.X
