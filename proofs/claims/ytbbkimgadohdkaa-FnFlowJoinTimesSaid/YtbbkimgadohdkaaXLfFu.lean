/- The walk of the law on the times of pairs. Conditions: none. -/
import Derived.Test.YtbbkimgadohdkaaXPlR
import Derived.Test.YtbbkimgadohdkaaXTmSet
import Derived.Test.YtbbkimgadohdkaaXLw
import Derived.Test.YtbbkimgadohdkaaXBytes
import Derived.RegionTactic
import Derived.BigRegion
namespace Go.Proofs.Ytbbkimgadohdkaa.X
open Go.RowKit Go.Proofs.YtbbkimgadohdkaaW.PrintWords
set_option linter.unusedVariables false
set_option linter.unusedSimpArgs false

/-- FnFlowJoinTimes, told plainly -/
theorem flowJoin_times {a b : List Rw} : ∀ x ∈ flowJoin a b, ((batchTimes a).any fun p => (batchTimes b).any fun q => decide (tJoin p q = x.f2)) = true := fun x hx => by
  unfold flowJoin at hx
  split at hx
  · rename_i hg
    simp only [Bool.and_eq_true] at hg
    have hx2 : x ∈ sum (pairsR a b) := by unfold fit at hx; split at hx; exact hx; cases hx
    obtain ⟨z, hz, e⟩ := sum_from x hx2
    obtain ⟨r, hr, hz⟩ := List.mem_flatMap.1 hz
    obtain ⟨s, hs, rfl⟩ := List.mem_map.1 hz
    have hs' := (List.mem_filter.1 hs).1
    have et := (sameR_eq e).2.2
    have tOf : ∀ {l : List Rw} {r : Rw}, rowsOk l = true → r ∈ l → r.f2 ∈ batchTimes l := fun {l r} hl hm => by
      unfold batchTimes
      rw [if_pos hl]
      have h1 := (rowsOk_all hl).2 r hm
      simp only [rowOk, Bool.and_eq_true] at h1
      exact mem_timesL.2 ⟨h1.1.1.2, List.any_eq_true.2 ⟨r, hm, by simp⟩⟩
    exact List.any_eq_true.2 ⟨r.f2, tOf hg.1 hr, List.any_eq_true.2 ⟨s.f2, tOf hg.2 hs', decide_eq_true et⟩⟩
  · cases hx
theorem any_snoc {α : Type} {l : List α} {k : Nat} {x : α} (f : α → Bool) (h : l[k]? = some x) : (l.take (k + 1)).any f = ((l.take k).any f || f x) := by
  rw [take_snoc h, List.any_append]; simp
attribute [local go_sem high] eqATm in
set_option maxRecDepth 100000 in
set_option maxHeartbeats 4000000 in
theorem laws_FnFlowJoinTimes (v : Value) (l : List Int) (w : World) (h : IsBytes w v l) : Calls Try.prog 10 #[v] w (RetV w (.bool true)) := by
  have H := Aside0.mk h
  obtain ⟨⟨A, c, rfl, hc, hr⟩, hb⟩ := h
  have hm := Kd.C_max hr
  clear hr hb
  have HB := Aside0.mk (Below.refl w.heap.size w)
  go_enter Try.func10, Try.ntmps10
  by_cases hl : 1048576 < l.length
  · have hl' : (l.length : Int) > 1048576 := by omega
    go_wp2
    go_ret
    exact RetV.mk rfl HB.out
  have hl' : ¬ (l.length : Int) > 1048576 := by omega
  go_upto_region 4 with (go_at_call 29; ((with_reducible refine (spec_DrawFlowJoin (.slice A l.length c) l w H.out.sl H.out.by_).mono ?_); rintro e wa ⟨vs, vt, s, t, rfl, h1, h2, h3, h4, h5⟩; have HS := Aside0.mk h1; have HT := Aside0.mk h2; replace HB := Aside0.mk h5; clear h1 h2 h3 h4 h5))
  have q0 : decide (flowJoin s t = flowJoin s t) = true := decide_eq_true rfl
  have K2 := Aside0.mk (@flowJoin_times s t)
  go_upto_region 9 with (first
    | (go_at_call 30; ((with_reducible refine (impl_FlowJoin vs vt s t _ HS.out HT.out).mono ?_); rintro e w' ⟨vx, rfl, hr, hb⟩; (try replace HS := Aside0.mk (HS.out.below hb)); (try replace HT := Aside0.mk (HT.out.below hb)); (try replace HX := Aside0.mk (HX.out.below hb)); (try replace HY := Aside0.mk (HY.out.below hb)); (try replace H1 := Aside0.mk (H1.out.below hb)); (try replace H2 := Aside0.mk (H2.out.below hb)); replace HB := Aside0.mk (bthen HB.out hb); have HX := Aside0.mk (Sl.of_R hr); clear hr hb))
    | (go_at_call 32; ((with_reducible refine (spec_FlowJoin vs vt s t _ HS.out HT.out).mono ?_); rintro e w' ⟨vy, rfl, hr, hb⟩; (try replace HS := Aside0.mk (HS.out.below hb)); (try replace HT := Aside0.mk (HT.out.below hb)); (try replace HX := Aside0.mk (HX.out.below hb)); (try replace HY := Aside0.mk (HY.out.below hb)); (try replace H1 := Aside0.mk (H1.out.below hb)); (try replace H2 := Aside0.mk (H2.out.below hb)); replace HB := Aside0.mk (bthen HB.out hb); have HY := Aside0.mk hr; clear hr hb))
    | (go_at_call 31; ((with_reducible refine (laws_lwRows vx vy (flowJoin s t) (flowJoin s t) _ HX.out HY.out).mono ?_); rintro e w' ⟨rfl, hb⟩; (try replace HS := Aside0.mk (HS.out.below hb)); (try replace HT := Aside0.mk (HT.out.below hb)); (try replace HX := Aside0.mk (HX.out.below hb)); (try replace HY := Aside0.mk (HY.out.below hb)); (try replace H1 := Aside0.mk (H1.out.below hb)); (try replace H2 := Aside0.mk (H2.out.below hb)); replace HB := Aside0.mk (bthen HB.out hb); clear hb))
    | (go_at_call 41; ((with_reducible refine (impl_BatchTimes vs s _ HS.out).mono ?_); rintro e w' ⟨v1, rfl, hr, hb⟩; (try replace HS := Aside0.mk (HS.out.below hb)); (try replace HT := Aside0.mk (HT.out.below hb)); (try replace HX := Aside0.mk (HX.out.below hb)); (try replace HY := Aside0.mk (HY.out.below hb)); (try replace H1 := Aside0.mk (H1.out.below hb)); (try replace H2 := Aside0.mk (H2.out.below hb)); replace HB := Aside0.mk (bthen HB.out hb); have H1 := Aside0.mk (Sl.of_R hr); clear hr hb))
    | (go_at_call 41; ((with_reducible refine (impl_BatchTimes vt t _ HT.out).mono ?_); rintro e w' ⟨v2, rfl, hr, hb⟩; (try replace HS := Aside0.mk (HS.out.below hb)); (try replace HT := Aside0.mk (HT.out.below hb)); (try replace HX := Aside0.mk (HX.out.below hb)); (try replace HY := Aside0.mk (HY.out.below hb)); (try replace H1 := Aside0.mk (H1.out.below hb)); (try replace H2 := Aside0.mk (H2.out.below hb)); replace HB := Aside0.mk (bthen HB.out hb); have H2 := Aside0.mk (Sl.of_R hr); clear hr hb)))
  clear HY HS HT
  obtain ⟨A3, c3, rfl, hc3, hC3⟩ := HX.out
  obtain ⟨A4, c4, rfl, hc4, hC4⟩ := H1.out
  obtain ⟨A5, c5, rfl, hc5, hC5⟩ := H2.out
  have hm3 := Kd.C_max hC3
  have hm4 := Kd.C_max hC4
  have hm5 := Kd.C_max hC5
  have HR3 := Aside0.mk hC3
  have HR4 := Aside0.mk hC4
  have HR5 := Aside0.mk hC5
  clear hC3 hC4 hC5 HX H1 H2
  generalize flowJoin s t = x at *
  generalize batchTimes s = one at *
  generalize batchTimes t = two at *
  have HB0 := Aside0.mk (Below.refl w'.heap.size w')
  have HBW := HB
  clear HB
  go_wp2
  go_loopw [8] (fun i wr => ∃ k : Nat, k ≤ x.length ∧ i = .int .i64 k ∧ Aside0 (Below w'.heap.size w' wr)) (fun i _ => x.length - (intOf i).toNat)
  case atStart => exact ⟨0, Nat.zero_le _, rfl, HB0⟩
  case round =>
    clear HB0
    obtain ⟨k, hk, rfl, HB⟩ := hrel
    by_cases hlt : k < x.length
    · obtain ⟨ad, y, e, HY, _, _, _, _, _⟩ := rdRw HR3.out HB.out hlt
      cases e
      have hy := K2.out y (List.mem_of_getElem? HY.out)
      have HYY := Aside0.mk hy
      clear hy
      have al := add_blk ad (k * 5) ▸ rwLt HR3.out hlt
      go_wp2
      go_loopw [9, 10] (fun f i wr => ∃ j : Nat, j ≤ one.length ∧ i = .int .i64 j ∧ f = .bool ((one.take j).any fun p => two.any fun q => decide (tJoin p q = y.f2)) ∧ Aside0 (Below w'.heap.size w' wr)) (fun _ i _ => one.length - (intOf i).toNat)
      case atStart => exact ⟨0, Nat.zero_le _, rfl, rfl, HB⟩
      case round =>
        clear HB
        obtain ⟨j, hj, rfl, rfl, HB⟩ := hrel
        by_cases hlt2 : j < one.length
        · obtain ⟨ad1, p, e, HP, _, _⟩ := rdTm HR4.out HB.out hlt2
          cases e
          generalize hfo : ((one.take j).any fun p => two.any fun q => decide (tJoin p q = y.f2)) = fo
          have HFO := Aside0.mk hfo
          clear hfo
          go_wp2
          go_loopw [9, 11] (fun f i wr => ∃ m : Nat, m ≤ two.length ∧ i = .int .i64 m ∧ f = .bool (fo || (two.take m).any fun q => decide (tJoin p q = y.f2)) ∧ Aside0 (Below w'.heap.size w' wr)) (fun _ i _ => two.length - (intOf i).toNat)
          case atStart => exact ⟨0, Nat.zero_le _, rfl, by simp, HB⟩
          case round =>
            clear HB
            obtain ⟨m, hm, rfl, rfl, HB⟩ := hrel
            by_cases hlt3 : m < two.length
            · obtain ⟨ad2, q, e, HQ, i0, i1⟩ := rdTm HR5.out HB.out hlt3
              cases e
              obtain ⟨ad3, p', e3, HP', h0, h1⟩ := rdTm HR4.out HB.out hlt2
              cases e3
              have ep : p' = p := Option.some.inj (HP'.out.symm.trans HP.out)
              subst ep
              obtain ⟨ad4, y', e4, HY', _, _, g2, g3, _⟩ := rdRw HR3.out HB.out hlt
              cases e4
              have ey : y' = y := Option.some.inj (HY'.out.symm.trans HY.out)
              subst ey
              have p0 := fun u => Ext.cell h0 u
              have p1 := fun u => Ext.cell h1 u
              have r0 := fun u => Ext.cell i0 u
              have r1 := fun u => Ext.cell i1 u
              have s2 := fun u => Ext.cell g2 u
              have s3 := fun u => Ext.cell g3 u
              have ea := any_snoc (fun q => decide (tJoin p' q = y'.f2)) HQ.out
              have EA := Aside0.mk ea
              clear ea
              generalize hgo : (fo || (two.take m).any fun q => decide (tJoin p' q = y'.f2)) = gg
              have HGO := Aside0.mk hgo
              clear hgo
              cases gg
              · go_wp2
                refine wp_region_ext (by kernel_rfl) (by kernel_rfl) ?_
                repeat (any_goals (first | go_big_quiet_step ((go_at_call 42; exact Calls.extV (impl_TimeJoin p'.f0 p'.f1 q.f0 q.f1 _))) | quiet_step ((go_at_call 42; exact Calls.extV (impl_TimeJoin p'.f0 p'.f1 q.f0 q.f1 _))) | (refine wpQuiet_step (fun K hK => ?_); go_simp; split <;> (refine hK _ ?_; clear hK K))))
                all_goals (refine wpQuiet_nil ?_; intro u)
                rw [tmEq]
                have HB2 := Aside0.mk (bthen HB.out u.bel)
                clear p0 p1 r0 r1 s2 s3
                go_wp2
                go_roundw
                case rel => exact ⟨m + 1, by omega, by go_num, by rw [EA.out, ← Bool.or_assoc, HGO.out]; rfl, HB2⟩
                case measure => simp [intOf]; omega
              · go_wp2
                refine wp_region_ext (by kernel_rfl) (by kernel_rfl) ?_
                repeat (any_goals (first | go_big_quiet_step (fail) | quiet_step (fail) | (refine wpQuiet_step (fun K hK => ?_); go_simp; split <;> (refine hK _ ?_; clear hK K))))
                all_goals (refine wpQuiet_nil ?_; intro u)
                have HB2 := Aside0.mk (bthen HB.out u.bel)
                clear p0 p1 r0 r1 s2 s3
                go_wp2
                go_roundw
                case rel => exact ⟨m + 1, by omega, by go_num, by rw [EA.out, ← Bool.or_assoc, HGO.out]; rfl, HB2⟩
                case measure => simp [intOf]; omega
            · obtain rfl : m = two.length := by omega
              rw [List.take_length]
              go_wp2
              go_roundw
              case rel => exact ⟨j + 1, by omega, by go_num, by rw [any_snoc _ HP.out, HFO.out], HB⟩
              case measure => simp [intOf]; omega
        · obtain rfl : j = one.length := by omega
          rw [List.take_length, HYY.out]
          go_wp2
          go_roundw
          case rel => exact ⟨k + 1, by omega, by go_num, HB⟩
          case measure => simp [intOf]; omega
    · go_wp2
      go_ret
      exact RetV.mk rfl (bthen HBW.out HB.out)
end Go.Proofs.Ytbbkimgadohdkaa.X
