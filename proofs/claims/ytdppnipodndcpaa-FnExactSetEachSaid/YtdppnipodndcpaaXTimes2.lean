/- The walks of more functions on times and fronts: each answers what its function in Pure says. Conditions: none. -/
import Derived.Test.YtdppnipodndcpaaXTimes
namespace Go.Proofs.Ytdppnipodndcpaa.X
open Go.RowKit Go.Proofs.YtdppnipodndcpaaW.PrintWords
set_option linter.unusedVariables false
set_option linter.unusedSimpArgs false

set_option maxRecDepth 100000 in
set_option maxHeartbeats 1000000 in
theorem spec_FrontCovers (v : Value) (l : List Tm) (c d : Int) (w : World) (h : Sl kTm w v l) : Calls Try.prog 95 #[v, .agg #[.int .i64 c, .int .i64 d]] w (RetV w (.bool (covers l ⟨c, d⟩))) := by
  have HS := Aside0.mk h
  obtain ⟨A, c_, rfl, HC, hr⟩ := h
  have hm := Kd.C_max hr
  have HR := Aside0.mk hr
  clear hr
  cases hfo : frontOk l
  ·
    have HB := Aside0.mk (Below.refl w.heap.size w)
    go_enter Try.func95, Try.ntmps95
    go_wp2_with (go_at_call 78; refine (spec_FrontOk _ l _ (by exact Sl.below HS.out (below_alloc (Below.refl _ _) _))).mono ?_; rintro e w' ⟨rfl, hb⟩; replace HB := Aside0.mk (bthen (below_alloc HB.out _) hb))
    go_ret
    exact RetV.mk (by simp [covers, hfo]) HB.out
  ·
    have HB := Aside0.mk (Below.refl w.heap.size w)
    go_enter Try.func95, Try.ntmps95
    go_wp2_with (go_at_call 78; refine (spec_FrontOk _ l _ (by exact Sl.below HS.out (below_alloc (Below.refl _ _) _))).mono ?_; rintro e w' ⟨rfl, hb⟩; replace HB := Aside0.mk (bthen (below_alloc HB.out _) hb); have g0 : w'.cell? ⟨w.heap.size, 0, none⟩ = some (.int .i64 c) := pw_cell_below hb (by simp); have g1 : w'.cell? ⟨w.heap.size, 1, none⟩ = some (.int .i64 d) := pw_cell_below hb (by simp))
    go_loopw [5] (fun i wr => ∃ k : Nat, k ≤ l.length ∧ i = .int .i64 k ∧ Aside0 ((l.take k).any (fun s => tLess s ⟨c, d⟩) = false) ∧ wr.cell? ⟨w.heap.size, 0, none⟩ = some (.int .i64 c) ∧ wr.cell? ⟨w.heap.size, 1, none⟩ = some (.int .i64 d) ∧ Aside0 (Below w.heap.size w wr)) (fun i _ => l.length - (intOf i).toNat)
    case atStart => exact ⟨0, Nat.zero_le _, rfl, ⟨by simp⟩, g0, g1, HB⟩
    case round =>
      obtain ⟨k, hk, rfl, HA, g0, g1, HB⟩ := hrel
      by_cases hlt : k < l.length
      · obtain ⟨ad, x, e, HX, h0, h1⟩ := rdTm HR.out HB.out hlt
        cases e
        have q0 := fun u => Ext.cell h0 u
        have q1 := fun u => Ext.cell h1 u
        have q2 := fun u => Ext.cell g0 u
        have q3 := fun u => Ext.cell g1 u
        go_wp2
        refine wp_region_ext (by kernel_rfl) (by kernel_rfl) ?_
        repeat (any_goals (first | go_big_quiet_step ((go_at_call 114; exact Calls.extV (spec_TimeLess _ _ _ _ _))) | quiet_step ((go_at_call 114; exact Calls.extV (spec_TimeLess _ _ _ _ _))) | (refine wpQuiet_step (fun K hK => ?_); go_simp; split <;> (refine hK _ ?_; clear hK K))))
        all_goals (refine wpQuiet_nil ?_; intro u)
        all_goals have HB2 := Aside0.mk (bthen HB.out u.bel)
        all_goals go_wp2
        all_goals first
          | (go_roundw
             case rel => exact ⟨k + 1, by omega, by go_num, ⟨any_take_succ HA.out HX.out (by simp_all)⟩, q2 u, q3 u, HB2⟩
             case measure => simp [intOf]; omega)
          | (go_ret; exact RetV.mk (by rw [covers, any_hit HX.out (by simp_all), hfo]; rfl) HB2.out)
      · go_wp2
        go_ret
        exact RetV.mk (by rw [covers, any_done HA.out hlt, hfo]; rfl) HB.out
end Go.Proofs.Ytdppnipodndcpaa.X
