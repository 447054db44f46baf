/- The walks of the functions on times and fronts: each answers what its function in Pure says. Conditions: none. -/
import Derived.Test.YtbbkimgadohdkaaXBase
import Derived.Test.YtbbkimgadohdkaaXPTimes
namespace Go.Proofs.Ytbbkimgadohdkaa.X
open Go.RowKit Go.Proofs.YtbbkimgadohdkaaW.PrintWords
set_option linter.unusedVariables false
set_option linter.unusedSimpArgs false

set_option maxRecDepth 100000 in
set_option maxHeartbeats 400000 in
theorem spec_l6In (n lo hi : Int) (w : World) : Calls Try.prog 58 #[.int .i64 n, .int .i64 lo, .int .i64 hi] w fun e w' => e = .returned (.bool (decide (lo ≤ n) && decide (n ≤ hi))) ∧ w = w' := by
  have HB := Aside0.mk (Below.refl w.heap.size w)
  go_enter Try.func58, Try.ntmps58
  go_wp2
  all_goals (go_ret; exact ⟨ret_bool (by first | (simp [*]; done) | (simp [*]; omega)), rfl⟩)
set_option maxRecDepth 100000 in
set_option maxHeartbeats 400000 in
theorem impl_TimeOk (a b : Int) (w : World) : Calls Try.prog 80 #[.agg #[.int .i64 a, .int .i64 b]] w (RetV w (.bool (tOk ⟨a, b⟩))) := by
  have HB := Aside0.mk (Below.refl w.heap.size w)
  go_enter Try.func80, Try.ntmps80
  go_wp2
  all_goals (go_ret; exact RetV.mk (by simp [tOk, *] <;> omega) (by repeat (first | exact HB.out | apply below_alloc)))
set_option maxRecDepth 100000 in
set_option maxHeartbeats 400000 in
theorem spec_TimeOk (a b : Int) (w : World) : Calls Try.prog 94 #[.agg #[.int .i64 a, .int .i64 b]] w (RetV w (.bool (tOk ⟨a, b⟩))) := by
  have HB := Aside0.mk (Below.refl w.heap.size w)
  go_enter Try.func94, Try.ntmps94
  go_wp2_with (go_at_call 58; refine (spec_l6In _ _ _ _).mono ?_; rintro e w' ⟨rfl, rfl⟩)
  all_goals (go_ret; exact RetV.mk (by simp_all [tOk] <;> omega) (by repeat (first | exact HB.out | apply below_alloc)))
set_option maxRecDepth 100000 in
set_option maxHeartbeats 400000 in
theorem impl_below (a b c d : Int) (w : World) : Calls Try.prog 100 #[.agg #[.int .i64 a, .int .i64 b], .agg #[.int .i64 c, .int .i64 d]] w (RetV w (.bool (below ⟨a, b⟩ ⟨c, d⟩))) := by
  have HB := Aside0.mk (Below.refl w.heap.size w)
  go_enter Try.func100, Try.ntmps100
  go_wp2
  all_goals (go_ret; exact RetV.mk (by simp [below, *] <;> omega) (by repeat (first | exact HB.out | apply below_alloc)))
set_option maxRecDepth 100000 in
set_option maxHeartbeats 400000 in
theorem impl_ahead (a b c d : Int) (w : World) : Calls Try.prog 101 #[.agg #[.int .i64 a, .int .i64 b], .agg #[.int .i64 c, .int .i64 d]] w (RetV w (.bool (ahead ⟨a, b⟩ ⟨c, d⟩))) := by
  have HB := Aside0.mk (Below.refl w.heap.size w)
  go_enter Try.func101, Try.ntmps101
  go_wp2
  all_goals (go_ret; exact RetV.mk (by simp_all [ahead] <;> omega) (by repeat (first | exact HB.out | apply below_alloc)))
set_option maxRecDepth 100000 in
set_option maxHeartbeats 400000 in
theorem spec_TimeLess (a b c d : Int) (w : World) : Calls Try.prog 107 #[.agg #[.int .i64 a, .int .i64 b], .agg #[.int .i64 c, .int .i64 d]] w (RetV w (.bool (tLess ⟨a, b⟩ ⟨c, d⟩))) := by
  have HB := Aside0.mk (Below.refl w.heap.size w)
  go_enter Try.func107, Try.ntmps107
  go_wp2_with (first | (go_at_call 94; refine (spec_TimeOk _ _ _).mono ?_; rintro e w' ⟨rfl, hb⟩; replace HB := Aside0.mk (bthen (by repeat (first | exact HB.out | apply below_alloc)) hb); obtain ⟨hc, hf⟩ := bcell hb; have z0 : w.heap.size < w'.heap.size := (by have := hb.size; (try simp at this); omega); have z1 : w.heap.size + 1 < w'.heap.size := (by have := hb.size; (try simp at this); omega)))
  all_goals (go_ret; exact RetV.mk (by simp_all [tLess, below] <;> omega) (by repeat (first | exact HB.out | apply below_alloc)))
set_option maxRecDepth 100000 in
set_option maxHeartbeats 400000 in
theorem impl_TimeJoin (a b c d : Int) (w : World) : Calls Try.prog 42 #[.agg #[.int .i64 a, .int .i64 b], .agg #[.int .i64 c, .int .i64 d]] w (RetV w (.agg #[.int .i64 (tJoin ⟨a, b⟩ ⟨c, d⟩).f0, .int .i64 (tJoin ⟨a, b⟩ ⟨c, d⟩).f1])) := by
  have HB := Aside0.mk (Below.refl w.heap.size w)
  go_enter Try.func42, Try.ntmps42
  go_wp2_with (first | (go_at_call 80; refine (impl_TimeOk _ _ _).mono ?_; rintro e w' ⟨rfl, hb⟩; replace HB := Aside0.mk (bthen (by repeat (first | exact HB.out | apply below_alloc)) hb); obtain ⟨hc, hf⟩ := bcell hb; have z0 : w.heap.size < w'.heap.size := (by have := hb.size; (try simp at this); omega); have z1 : w.heap.size + 1 < w'.heap.size := (by have := hb.size; (try simp at this); omega); have z2 : w.heap.size + 1 + 1 < w'.heap.size := (by have := hb.size; (try simp at this); omega)))
  all_goals (refine bodyPost_ret (by simp [results, Try.results42, go_sem, *]; rfl) rfl (RetV.mk ?_ (by repeat (first | exact HB.out | apply below_alloc | refine below_set ?_ (by omega)))); (simp_all [tJoin, tmax] <;> omega))

set_option maxRecDepth 100000 in
set_option maxHeartbeats 400000 in
theorem spec_TimeJoin (a b c d : Int) (w : World) : Calls Try.prog 93 #[.agg #[.int .i64 a, .int .i64 b], .agg #[.int .i64 c, .int .i64 d]] w (RetV w (.agg #[.int .i64 (tJoin ⟨a, b⟩ ⟨c, d⟩).f0, .int .i64 (tJoin ⟨a, b⟩ ⟨c, d⟩).f1])) := by
  have HB := Aside0.mk (Below.refl w.heap.size w)
  go_enter Try.func93, Try.ntmps93
  go_wp2_with (first | (go_at_call 94; refine (spec_TimeOk _ _ _).mono ?_; rintro e w' ⟨rfl, hb⟩; replace HB := Aside0.mk (bthen (by repeat (first | exact HB.out | apply below_alloc)) hb); obtain ⟨hc, hf⟩ := bcell hb; have z0 : w.heap.size < w'.heap.size := (by have := hb.size; (try simp at this); omega); have z1 : w.heap.size + 1 < w'.heap.size := (by have := hb.size; (try simp at this); omega); have z2 : w.heap.size + 1 + 1 < w'.heap.size := (by have := hb.size; (try simp at this); omega)))
  all_goals (refine bodyPost_ret (by simp [results, Try.results93, go_sem, *]; rfl) rfl (RetV.mk ?_ (by repeat (first | exact HB.out | apply below_alloc | refine below_set ?_ (by omega)))); (simp_all [tJoin, tmax] <;> omega))
end Go.Proofs.Ytbbkimgadohdkaa.X
