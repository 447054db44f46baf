/- The walks of the functions on times and fronts: each answers what its function in Pure says. Conditions: none. -/
import Derived.Test.YtdppnipodndcpaaXBase
import Derived.Test.YtdppnipodndcpaaXPTimes
namespace Go.Proofs.Ytdppnipodndcpaa.X
open Go.RowKit Go.Proofs.YtdppnipodndcpaaW.PrintWords
set_option linter.unusedVariables false
set_option linter.unusedSimpArgs false

set_option maxRecDepth 100000 in
set_option maxHeartbeats 400000 in
theorem spec_l6In (n lo hi : Int) (w : World) : Calls Try.prog 115 #[.int .i64 n, .int .i64 lo, .int .i64 hi] w fun e w' => e = .returned (.bool (decide (lo ≤ n) && decide (n ≤ hi))) ∧ w = w' := by
  have HB := Aside0.mk (Below.refl w.heap.size w)
  go_enter Try.func115, Try.ntmps115
  go_wp2
  all_goals (go_ret; exact ⟨ret_bool (by first | (simp [*]; done) | (simp [*]; omega)), rfl⟩)
set_option maxRecDepth 100000 in
set_option maxHeartbeats 400000 in
theorem impl_TimeOk (a b : Int) (w : World) : Calls Try.prog 73 #[.agg #[.int .i64 a, .int .i64 b]] w (RetV w (.bool (tOk ⟨a, b⟩))) := by
  have HB := Aside0.mk (Below.refl w.heap.size w)
  go_enter Try.func73, Try.ntmps73
  go_wp2
  all_goals (go_ret; exact RetV.mk (by simp [tOk, *] <;> omega) (by repeat (first | exact HB.out | apply below_alloc)))
set_option maxRecDepth 100000 in
set_option maxHeartbeats 400000 in
theorem spec_TimeOk (a b : Int) (w : World) : Calls Try.prog 56 #[.agg #[.int .i64 a, .int .i64 b]] w (RetV w (.bool (tOk ⟨a, b⟩))) := by
  have HB := Aside0.mk (Below.refl w.heap.size w)
  go_enter Try.func56, Try.ntmps56
  go_wp2_with (go_at_call 115; refine (spec_l6In _ _ _ _).mono ?_; rintro e w' ⟨rfl, rfl⟩)
  all_goals (go_ret; exact RetV.mk (by simp_all [tOk] <;> omega) (by repeat (first | exact HB.out | apply below_alloc)))
set_option maxRecDepth 100000 in
set_option maxHeartbeats 400000 in
theorem impl_below (a b c d : Int) (w : World) : Calls Try.prog 116 #[.agg #[.int .i64 a, .int .i64 b], .agg #[.int .i64 c, .int .i64 d]] w (RetV w (.bool (below ⟨a, b⟩ ⟨c, d⟩))) := by
  have HB := Aside0.mk (Below.refl w.heap.size w)
  go_enter Try.func116, Try.ntmps116
  go_wp2
  all_goals (go_ret; exact RetV.mk (by simp [below, *] <;> omega) (by repeat (first | exact HB.out | apply below_alloc)))
set_option maxRecDepth 100000 in
set_option maxHeartbeats 400000 in
theorem impl_ahead (a b c d : Int) (w : World) : Calls Try.prog 140 #[.agg #[.int .i64 a, .int .i64 b], .agg #[.int .i64 c, .int .i64 d]] w (RetV w (.bool (ahead ⟨a, b⟩ ⟨c, d⟩))) := by
  have HB := Aside0.mk (Below.refl w.heap.size w)
  go_enter Try.func140, Try.ntmps140
  go_wp2
  all_goals (go_ret; exact RetV.mk (by simp_all [ahead] <;> omega) (by repeat (first | exact HB.out | apply below_alloc)))
set_option maxRecDepth 100000 in
set_option maxHeartbeats 400000 in
theorem spec_TimeLess (a b c d : Int) (w : World) : Calls Try.prog 114 #[.agg #[.int .i64 a, .int .i64 b], .agg #[.int .i64 c, .int .i64 d]] w (RetV w (.bool (tLess ⟨a, b⟩ ⟨c, d⟩))) := by
  have HB := Aside0.mk (Below.refl w.heap.size w)
  go_enter Try.func114, Try.ntmps114
  go_wp2_with (first | (go_at_call 56; refine (spec_TimeOk _ _ _).mono ?_; rintro e w' ⟨rfl, hb⟩; replace HB := Aside0.mk (bthen (by repeat (first | exact HB.out | apply below_alloc)) hb); obtain ⟨hc, hf⟩ := bcell hb; have z0 : w.heap.size < w'.heap.size := (by have := hb.size; (try simp at this); omega); have z1 : w.heap.size + 1 < w'.heap.size := (by have := hb.size; (try simp at this); omega)))
  all_goals (go_ret; exact RetV.mk (by simp_all [tLess, below] <;> omega) (by repeat (first | exact HB.out | apply below_alloc)))
set_option maxRecDepth 100000 in
set_option maxHeartbeats 400000 in
theorem impl_TimeLess (a b c d : Int) (w : World) : Calls Try.prog 57 #[.agg #[.int .i64 a, .int .i64 b], .agg #[.int .i64 c, .int .i64 d]] w (RetV w (.bool (tLess ⟨a, b⟩ ⟨c, d⟩))) := by
  have HB := Aside0.mk (Below.refl w.heap.size w)
  go_enter Try.func57, Try.ntmps57
  go_wp2_with (first | (go_at_call 73; refine (impl_TimeOk _ _ _).mono ?_; rintro e w' ⟨rfl, hb⟩; replace HB := Aside0.mk (bthen (by repeat (first | exact HB.out | apply below_alloc)) hb); obtain ⟨hc, hf⟩ := bcell hb; have z0 : w.heap.size < w'.heap.size := (by have := hb.size; (try simp at this); omega); have z1 : w.heap.size + 1 < w'.heap.size := (by have := hb.size; (try simp at this); omega)) | (go_at_call 116; refine (impl_below _ _ _ _ _).mono ?_; rintro e w' ⟨rfl, hb⟩; replace HB := Aside0.mk (bthen (by repeat (first | exact HB.out | apply below_alloc)) hb); obtain ⟨hc, hf⟩ := bcell hb; have z0 : w.heap.size < w'.heap.size := (by have := hb.size; (try simp at this); omega); have z1 : w.heap.size + 1 < w'.heap.size := (by have := hb.size; (try simp at this); omega)))
  all_goals (go_ret; exact RetV.mk (by simp_all [tLess]) (by repeat (first | exact HB.out | apply below_alloc)))
set_option maxRecDepth 100000 in
set_option maxHeartbeats 400000 in
theorem impl_TimeJoin (a b c d : Int) (w : World) : Calls Try.prog 19 #[.agg #[.int .i64 a, .int .i64 b], .agg #[.int .i64 c, .int .i64 d]] w (RetV w (.agg #[.int .i64 (tJoin ⟨a, b⟩ ⟨c, d⟩).f0, .int .i64 (tJoin ⟨a, b⟩ ⟨c, d⟩).f1])) := by
  have HB := Aside0.mk (Below.refl w.heap.size w)
  go_enter Try.func19, Try.ntmps19
  go_wp2_with (first | (go_at_call 73; refine (impl_TimeOk _ _ _).mono ?_; rintro e w' ⟨rfl, hb⟩; replace HB := Aside0.mk (bthen (by repeat (first | exact HB.out | apply below_alloc)) hb); obtain ⟨hc, hf⟩ := bcell hb; have z0 : w.heap.size < w'.heap.size := (by have := hb.size; (try simp at this); omega); have z1 : w.heap.size + 1 < w'.heap.size := (by have := hb.size; (try simp at this); omega); have z2 : w.heap.size + 1 + 1 < w'.heap.size := (by have := hb.size; (try simp at this); omega)))
  all_goals (refine bodyPost_ret (by simp [results, Try.results19, go_sem, *]; rfl) rfl (RetV.mk ?_ (by repeat (first | exact HB.out | apply below_alloc | refine below_set ?_ (by omega)))); (simp_all [tJoin, tmax] <;> omega))

set_option maxRecDepth 100000 in
set_option maxHeartbeats 400000 in
theorem spec_TimeJoin (a b c d : Int) (w : World) : Calls Try.prog 71 #[.agg #[.int .i64 a, .int .i64 b], .agg #[.int .i64 c, .int .i64 d]] w (RetV w (.agg #[.int .i64 (tJoin ⟨a, b⟩ ⟨c, d⟩).f0, .int .i64 (tJoin ⟨a, b⟩ ⟨c, d⟩).f1])) := by
  have HB := Aside0.mk (Below.refl w.heap.size w)
  go_enter Try.func71, Try.ntmps71
  go_wp2_with (first | (go_at_call 56; refine (spec_TimeOk _ _ _).mono ?_; rintro e w' ⟨rfl, hb⟩; replace HB := Aside0.mk (bthen (by repeat (first | exact HB.out | apply below_alloc)) hb); obtain ⟨hc, hf⟩ := bcell hb; have z0 : w.heap.size < w'.heap.size := (by have := hb.size; (try simp at this); omega); have z1 : w.heap.size + 1 < w'.heap.size := (by have := hb.size; (try simp at this); omega); have z2 : w.heap.size + 1 + 1 < w'.heap.size := (by have := hb.size; (try simp at this); omega)))
  all_goals (refine bodyPost_ret (by simp [results, Try.results71, go_sem, *]; rfl) rfl (RetV.mk ?_ (by repeat (first | exact HB.out | apply below_alloc | refine below_set ?_ (by omega)))); (simp_all [tJoin, tmax] <;> omega))
set_option maxRecDepth 100000 in
set_option maxHeartbeats 400000 in
theorem spec_TimeMeet (a b c d : Int) (w : World) : Calls Try.prog 150 #[.agg #[.int .i64 a, .int .i64 b], .agg #[.int .i64 c, .int .i64 d]] w (RetV w (.agg #[.int .i64 (tMeet ⟨a, b⟩ ⟨c, d⟩).f0, .int .i64 (tMeet ⟨a, b⟩ ⟨c, d⟩).f1])) := by
  have HB := Aside0.mk (Below.refl w.heap.size w)
  go_enter Try.func150, Try.ntmps150
  go_wp2_with (first | (go_at_call 56; refine (spec_TimeOk _ _ _).mono ?_; rintro e w' ⟨rfl, hb⟩; replace HB := Aside0.mk (bthen (by repeat (first | exact HB.out | apply below_alloc)) hb); obtain ⟨hc, hf⟩ := bcell hb; have z0 : w.heap.size < w'.heap.size := (by have := hb.size; (try simp at this); omega); have z1 : w.heap.size + 1 < w'.heap.size := (by have := hb.size; (try simp at this); omega); have z2 : w.heap.size + 1 + 1 < w'.heap.size := (by have := hb.size; (try simp at this); omega)))
  all_goals (refine bodyPost_ret (by simp [results, Try.results150, go_sem, *]; rfl) rfl (RetV.mk ?_ (by repeat (first | exact HB.out | apply below_alloc | refine below_set ?_ (by omega)))); (simp_all [tMeet, tmin] <;> omega))
set_option maxRecDepth 100000 in
set_option maxHeartbeats 400000 in
theorem impl_TimeMeet (a b c d : Int) (w : World) : Calls Try.prog 143 #[.agg #[.int .i64 a, .int .i64 b], .agg #[.int .i64 c, .int .i64 d]] w (RetV w (.agg #[.int .i64 (tMeet ⟨a, b⟩ ⟨c, d⟩).f0, .int .i64 (tMeet ⟨a, b⟩ ⟨c, d⟩).f1])) := by
  have HB := Aside0.mk (Below.refl w.heap.size w)
  go_enter Try.func143, Try.ntmps143
  go_wp2_with (first | (go_at_call 73; refine (impl_TimeOk _ _ _).mono ?_; rintro e w' ⟨rfl, hb⟩; replace HB := Aside0.mk (bthen (by repeat (first | exact HB.out | apply below_alloc)) hb); obtain ⟨hc, hf⟩ := bcell hb; have z0 : w.heap.size < w'.heap.size := (by have := hb.size; (try simp at this); omega); have z1 : w.heap.size + 1 < w'.heap.size := (by have := hb.size; (try simp at this); omega); have z2 : w.heap.size + 1 + 1 < w'.heap.size := (by have := hb.size; (try simp at this); omega)))
  all_goals (refine bodyPost_ret (by simp [results, Try.results143, go_sem, *]; rfl) rfl (RetV.mk ?_ (by repeat (first | exact HB.out | apply below_alloc | refine below_set ?_ (by omega)))); (simp_all [tMeet, tmin] <;> omega))
set_option maxRecDepth 100000 in
set_option maxHeartbeats 400000 in
theorem spec_l1Ok (v : Value) (l : List Tm) (w : World) (h : Sl kTm w v l) : Calls Try.prog 151 #[v] w (RetV w (.bool (allOk l))) := by
  obtain ⟨A, c_, rfl, HC, hr⟩ := h
  have hm := Kd.C_max hr
  have HR := Aside0.mk hr
  clear hr
  have HB := Aside0.mk (Below.refl w.heap.size w)
  go_enter Try.func151, Try.ntmps151
  go_wp2
  go_loopw [3] (fun i wr => ∃ k : Nat, k ≤ l.length ∧ i = .int .i64 k ∧ Aside0 ((l.take k).all tOk = true) ∧ Aside0 (Below w.heap.size w wr)) (fun i _ => l.length - (intOf i).toNat)
  case atStart => exact ⟨0, Nat.zero_le _, rfl, ⟨by simp⟩, HB⟩
  case round =>
    obtain ⟨k, hk, rfl, HA, HB⟩ := hrel
    by_cases hlt : k < l.length
    · obtain ⟨ad, x, e, HX, h0, h1⟩ := rdTm HR.out HB.out hlt
      cases e
      go_wp2_with (first | (go_at_call 56; refine (spec_TimeOk _ _ _).mono ?_; rintro e w' ⟨rfl, hb⟩; replace HB := Aside0.mk (bthen (by repeat (first | exact HB.out | apply below_alloc)) hb); obtain ⟨hc, hf⟩ := bcell hb))
      all_goals first
        | (go_roundw
           case rel => exact ⟨k + 1, by omega, by go_num, ⟨all_take_succ HA.out HX.out (by simp_all)⟩, HB⟩
           case measure => simp [intOf]; omega)
        | (go_ret; exact RetV.mk (by rw [allOk, all_bad HX.out (by simp_all)]; rfl) HB.out)
    · go_wp2
      go_ret
      exact RetV.mk (by rw [allOk, all_done HA.out hlt]; rfl) HB.out
set_option maxRecDepth 100000 in
set_option maxHeartbeats 400000 in
theorem impl_beyond (v : Value) (l : List Tm) (c d : Int) (w : World) (h : Sl kTm w v l) : Calls Try.prog 87 #[v, .agg #[.int .i64 c, .int .i64 d]] w (RetV w (.bool (beyond l ⟨c, d⟩))) := by
  obtain ⟨A, c_, rfl, HC, hr⟩ := h
  have hm := Kd.C_max hr
  have HR := Aside0.mk hr
  clear hr
  have HB := Aside0.mk (Below.refl w.heap.size w)
  go_enter Try.func87, Try.ntmps87
  go_wp2
  go_loopw [9] (fun i wr => ∃ k : Nat, k ≤ l.length ∧ i = .int .i64 k ∧ Aside0 ((l.take k).any (fun s => below s ⟨c, d⟩) = false) ∧ wr.cell? ⟨w.heap.size, 0, none⟩ = some (.int .i64 c) ∧ wr.cell? ⟨w.heap.size, 1, none⟩ = some (.int .i64 d) ∧ w.heap.size < wr.heap.size ∧ Aside0 (Below w.heap.size w wr)) (fun i _ => l.length - (intOf i).toNat)
  case atStart => exact ⟨0, Nat.zero_le _, rfl, ⟨by simp⟩, by simp, by simp, by simp, ⟨by repeat (first | exact HB.out | apply below_alloc)⟩⟩
  case round =>
    obtain ⟨k, hk, rfl, HA, g0, g1, z, HB⟩ := hrel
    by_cases hlt : k < l.length
    · obtain ⟨ad, x, e, HX, h0, h1⟩ := rdTm HR.out HB.out hlt
      cases e
      go_wp2_with (first | (go_at_call 116; refine (impl_below _ _ _ _ _).mono ?_; rintro e w' ⟨rfl, hb⟩; replace HB := Aside0.mk (bthen (by repeat (first | exact HB.out | apply below_alloc)) hb); obtain ⟨hc, hf⟩ := bcell hb; have z0 : w.heap.size < w'.heap.size := (by have := hb.size; (try simp at this); omega)))
      all_goals first
        | (go_roundw
           case rel => exact ⟨k + 1, by omega, by go_num, ⟨any_take_succ HA.out HX.out (by simp_all)⟩, pw_cell_below (bthen (below_alloc (Below.refl _ _) _) hb) g0, pw_cell_below (bthen (below_alloc (Below.refl _ _) _) hb) g1, by omega, HB⟩
           case measure => simp [intOf]; omega)
        | (go_ret; exact RetV.mk (by rw [beyond, any_hit HX.out (by simp_all)]; rfl) HB.out)
    · go_wp2
      go_ret
      exact RetV.mk (by rw [beyond, any_done HA.out hlt]; rfl) HB.out
set_option maxRecDepth 100000 in
set_option maxHeartbeats 1000000 in
theorem spec_FrontOk (v : Value) (l : List Tm) (w : World) (h : Sl kTm w v l) : Calls Try.prog 78 #[v] w (RetV w (.bool (frontOk l))) := by
  obtain ⟨A, c_, rfl, HC, hr⟩ := h
  have hm := Kd.C_max hr
  have HR := Aside0.mk hr
  clear hr
  have HB := Aside0.mk (Below.refl w.heap.size w)
  go_enter Try.func78, Try.ntmps78
  go_wp2
  go_loopw [3] (fun i wr => ∃ k : Nat, k ≤ l.length ∧ i = .int .i64 k ∧ Aside0 (frontOk (l.take k) = true) ∧ Aside0 (Below w.heap.size w wr)) (fun i _ => l.length - (intOf i).toNat)
  case atStart => exact ⟨0, Nat.zero_le _, rfl, ⟨by simp [frontOk]⟩, HB⟩
  case round =>
    obtain ⟨k, hk, rfl, HA, HB⟩ := hrel
    by_cases hlt : k < l.length
    · obtain ⟨ad, x, e, HX, h0, h1⟩ := rdTm HR.out HB.out hlt
      cases e
      have q0 := fun u => Ext.cell h0 u
      have q1 := fun u => Ext.cell h1 u
      by_cases hk0 : 0 < k
      · obtain ⟨j, rfl⟩ : ∃ j, k = j + 1 := ⟨k - 1, by omega⟩
        obtain ⟨ad', y, e, HY, h2, h3⟩ := rdTm HR.out HB.out (k := j) (by omega)
        cases e
        have q2 := fun u => Ext.cell h2 u
        have q3 := fun u => Ext.cell h3 u
        have e1 : IntKind.i64.wrap (j : Int) = j := IntWalk.i64_in _ (by omega)
        have e2 : (j : Int) < (l.length : Int) := by omega
        have e3 : j < l.length := by omega
        have e4 : (0 : Int) ≤ (j : Int) + 1 := by omega
        go_wp2
        refine wp_region_ext (by kernel_rfl) (by kernel_rfl) ?_
        repeat (any_goals (first | go_big_quiet_step ((go_at_call 56; exact Calls.extV (spec_TimeOk _ _ _))) | quiet_step ((go_at_call 56; exact Calls.extV (spec_TimeOk _ _ _))) | (refine wpQuiet_step (fun K hK => ?_); go_simp; split <;> (refine hK _ ?_; clear hK K))))
        all_goals (refine wpQuiet_nil ?_; intro u)
        all_goals have HB2 := Aside0.mk (bthen HB.out u.bel)
        all_goals go_wp2
        all_goals first
          | (go_roundw
             case rel => exact ⟨j + 1 + 1, by omega, by go_num, ⟨by rw [front_next HA.out HY.out HX.out]; simp [step2, *]⟩, HB2⟩
             case measure => simp [intOf]; omega)
          | (go_ret; exact RetV.mk (by rw [front_false (j + 1 + 1) (by rw [front_next HA.out HY.out HX.out]; simp [step2, *] <;> omega)]; rfl) HB2.out)
      · go_wp2
        refine wp_region_ext (by kernel_rfl) (by kernel_rfl) ?_
        repeat (any_goals (first | go_big_quiet_step ((go_at_call 56; exact Calls.extV (spec_TimeOk _ _ _))) | quiet_step ((go_at_call 56; exact Calls.extV (spec_TimeOk _ _ _))) | (refine wpQuiet_step (fun K hK => ?_); go_simp; split <;> (refine hK _ ?_; clear hK K))))
        all_goals (refine wpQuiet_nil ?_; intro u)
        all_goals have HB2 := Aside0.mk (bthen HB.out u.bel)
        all_goals go_wp2
        all_goals first
          | (go_roundw
             case rel => exact ⟨k + 1, by omega, by go_num, ⟨by rw [front_first HX.out hk0]; simp [*]⟩, HB2⟩
             case measure => simp [intOf]; omega)
          | (go_ret; exact RetV.mk (by rw [front_false (k + 1) (by rw [front_first HX.out hk0]; simp [*])]; rfl) HB2.out)
    · go_wp2
      go_ret
      exact RetV.mk (by rw [front_done HA.out hlt]; rfl) HB.out
set_option maxRecDepth 100000 in
set_option maxHeartbeats 1000000 in
theorem impl_FrontOk (v : Value) (l : List Tm) (w : World) (h : Sl kTm w v l) : Calls Try.prog 82 #[v] w (RetV w (.bool (frontOk l))) := by
  obtain ⟨A, c_, rfl, HC, hr⟩ := h
  have hm := Kd.C_max hr
  have HR := Aside0.mk hr
  clear hr
  have HB := Aside0.mk (Below.refl w.heap.size w)
  go_enter Try.func82, Try.ntmps82
  go_wp2
  go_loopw [7] (fun i wr => ∃ k : Nat, k ≤ l.length ∧ i = .int .i64 k ∧ Aside0 (frontOk (l.take k) = true) ∧ Aside0 (Below w.heap.size w wr)) (fun i _ => l.length - (intOf i).toNat)
  case atStart => exact ⟨0, Nat.zero_le _, rfl, ⟨by simp [frontOk]⟩, HB⟩
  case round =>
    obtain ⟨k, hk, rfl, HA, HB⟩ := hrel
    by_cases hlt : k < l.length
    · obtain ⟨ad, x, e, HX, h0, h1⟩ := rdTm HR.out HB.out hlt
      cases e
      by_cases hk0 : 0 < k
      · obtain ⟨j, rfl⟩ : ∃ j, k = j + 1 := ⟨k - 1, by omega⟩
        obtain ⟨ad', y, e, HY, h2, h3⟩ := rdTm HR.out HB.out (k := j) (by omega)
        cases e
        have e1 : IntKind.i64.wrap (j : Int) = j := IntWalk.i64_in _ (by omega)
        have e2 : (j : Int) < (l.length : Int) := by omega
        have e3 : j < l.length := by omega
        have e4 : (0 : Int) ≤ (j : Int) + 1 := by omega
        go_wp2
        refine name_world fun W hW => ?_
        have hb : Below wr.heap.size wr W := hW ▸ below_alloc (Below.refl _ _) _
        have b0 : ∀ u : Ext W, u.w'.cell? ⟨wr.heap.size, 0, none⟩ = some (.int .i64 x.f0) := Ext.cell (by rw [hW]; simp)
        have b1 : ∀ u : Ext W, u.w'.cell? ⟨wr.heap.size, 1, none⟩ = some (.int .i64 x.f1) := Ext.cell (by rw [hW]; simp)
        have q2 := fun u => Ext.cell (pw_cell_below hb h2) u
        have q3 := fun u => Ext.cell (pw_cell_below hb h3) u
        clear hW
        refine wp_region_ext (by kernel_rfl) (by kernel_rfl) ?_
        repeat (any_goals (first | go_big_quiet_step ((go_at_call 73; exact Calls.extV (impl_TimeOk _ _ _))) | quiet_step ((go_at_call 73; exact Calls.extV (impl_TimeOk _ _ _))) | (refine wpQuiet_step (fun K hK => ?_); go_simp; split <;> (refine hK _ ?_; clear hK K))))
        all_goals (refine wpQuiet_nil ?_; intro u)
        all_goals have HB2 := Aside0.mk (bthen HB.out (bthen hb u.bel))
        all_goals go_wp2
        all_goals first
          | (go_roundw
             case rel => exact ⟨j + 1 + 1, by omega, by go_num, ⟨by rw [front_next HA.out HY.out HX.out]; simp [step2, *]⟩, HB2⟩
             case measure => simp [intOf]; omega)
          | (go_ret; exact RetV.mk (by rw [front_false (j + 1 + 1) (by rw [front_next HA.out HY.out HX.out]; simp [step2, *] <;> omega)]; rfl) HB2.out)
      · go_wp2
        refine name_world fun W hW => ?_
        have hb : Below wr.heap.size wr W := hW ▸ below_alloc (Below.refl _ _) _
        have b0 : ∀ u : Ext W, u.w'.cell? ⟨wr.heap.size, 0, none⟩ = some (.int .i64 x.f0) := Ext.cell (by rw [hW]; simp)
        have b1 : ∀ u : Ext W, u.w'.cell? ⟨wr.heap.size, 1, none⟩ = some (.int .i64 x.f1) := Ext.cell (by rw [hW]; simp)
        clear hW
        refine wp_region_ext (by kernel_rfl) (by kernel_rfl) ?_
        repeat (any_goals (first | go_big_quiet_step ((go_at_call 73; exact Calls.extV (impl_TimeOk _ _ _))) | quiet_step ((go_at_call 73; exact Calls.extV (impl_TimeOk _ _ _))) | (refine wpQuiet_step (fun K hK => ?_); go_simp; split <;> (refine hK _ ?_; clear hK K))))
        all_goals (refine wpQuiet_nil ?_; intro u)
        all_goals have HB2 := Aside0.mk (bthen HB.out (bthen hb u.bel))
        all_goals go_wp2
        all_goals first
          | (go_roundw
             case rel => exact ⟨k + 1, by omega, by go_num, ⟨by rw [front_first HX.out hk0]; simp [*]⟩, HB2⟩
             case measure => simp [intOf]; omega)
          | (go_ret; exact RetV.mk (by rw [front_false (k + 1) (by rw [front_first HX.out hk0]; simp [*])]; rfl) HB2.out)
    · go_wp2
      go_ret
      exact RetV.mk (by rw [front_done HA.out hlt]; rfl) HB.out
end Go.Proofs.Ytdppnipodndcpaa.X
