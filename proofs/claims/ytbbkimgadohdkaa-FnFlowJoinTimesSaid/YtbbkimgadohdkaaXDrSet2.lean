/- More draws of collections. Conditions: a reader of at most 2000 bytes, few draws so far. -/
import Derived.Test.YtbbkimgadohdkaaXDrSet
import Derived.RegionTactic
import Derived.BigRegion
namespace Go.Proofs.Ytbbkimgadohdkaa.X
open Go.RowKit Go.Proofs.YtbbkimgadohdkaaW.PrintWords
set_option linter.unusedVariables false
set_option linter.unusedSimpArgs false

theorem lit3 {w : World} {g : Nat} {t : TypeId} {a b c : Int} (h : w.heap[g]? = some (.cells #[.int .i64 a, .int .i64 b, .int .i64 c] t (0, 0))) (j : Nat) (hj : j < 3) : ∃ x, w.cell? ⟨g, j, none⟩ = some (.int .i64 x) ∧ (x = a ∨ x = b ∨ x = c) := by
  rcases (show j = 0 ∨ j = 1 ∨ j = 2 by omega) with rfl | rfl | rfl
  · exact ⟨a, blk_cell h 0, .inl rfl⟩
  · exact ⟨b, blk_cell h 1, .inr (.inl rfl)⟩
  · exact ⟨c, blk_cell h 2, .inr (.inr rfl)⟩
theorem Rd.drew {w0 : World} {rb : Nat} {s : List Int} {p : Int} {W : World} (h : Rd w0 rb s p W) : Rd w0 rb s p W.drew := h.below (below_drew (Below.refl _ _))
/-- one drawn collection -/
def Set1P (w : World) (e : Ending) (w' : World) : Prop := ∃ (v : Value) (l : List It), e = .returned v ∧ Sl kIt w' v l ∧ SetD l ∧ Below w.heap.size w w'
theorem Set1P.mk {w w' : World} {v : Value} {l : List It} (h1 : Sl kIt w' v l) (h3 : SetD l) (h5 : Below w.heap.size w w') : Set1P w (.returned v) w' := ⟨v, l, rfl, h1, h3, h5⟩
set_option maxRecDepth 100000 in
set_option maxHeartbeats 2000000 in
theorem spec_DrawSetOnce (v : Value) (l : List Int) (w : World) (h : Sl kB w v l) (hb : ∀ x ∈ l, 0 ≤ x ∧ x ≤ 255) : Calls Try.prog 20 #[v] w (Set1P w) := by
  have C1 := spec_l6Open v l w h hb
  go_enter Try.func20, Try.ntmps20
  go_wp2_with (first
    | (go_at_call 61; ((with_reducible refine C1.mono ?_); rintro e wa ⟨rb, s, rfl, hs, hrd, hba⟩; have HS := Aside0.mk hs; have HR := Aside0.mk hrd; clear hs hrd hba))
    | (go_at_call 60; ((with_reducible refine (spec_l71Set (W := wa) HS HR.out (by omega)).mono ?_); rintro e wb ⟨v1, l1, rfl, hr1, hd1, p1, g0, g1, hrb, hgb⟩; have HD1 := Aside0.mk hd1; have HO1 := Aside0.mk (Sl.of_R hr1); have HB := Aside0.mk hrb.bel; clear hr1 hd1 hrb hgb)))
  go_ret
  exact Set1P.mk HO1.out HD1.out HB.out
/-- a drawn collection and a number -/
def SetNP (w : World) (e : Ending) (w' : World) : Prop := ∃ (v : Value) (l : List It) (n : Int), e = .returned (.tuple #[v, .int .i64 n]) ∧ Sl kIt w' v l ∧ SetD l ∧ (-1 ≤ n ∧ n ≤ 8) ∧ Below w.heap.size w w'
theorem SetNP.mk {w w' : World} {v : Value} {l : List It} {n : Int} (h1 : Sl kIt w' v l) (h3 : SetD l) (h0 : -1 ≤ n) (h2 : n ≤ 8) (h5 : Below w.heap.size w w') : SetNP w (.returned (.tuple #[v, .int .i64 n])) w' := ⟨v, l, n, rfl, h1, h3, ⟨h0, h2⟩, h5⟩
set_option maxRecDepth 100000 in
set_option maxHeartbeats 2000000 in
theorem spec_DrawSetEach (v : Value) (l : List Int) (w : World) (h : Sl kB w v l) (hb : ∀ x ∈ l, 0 ≤ x ∧ x ≤ 255) : Calls Try.prog 25 #[v] w (SetNP w) := by
  have C1 := spec_l6Open v l w h hb
  go_enter Try.func25, Try.ntmps25
  go_upto_region 3 with (first
    | (go_at_call 61; ((with_reducible refine C1.mono ?_); rintro e wa ⟨rb, s, rfl, hs, hrd, hba⟩; have hS := Aside0.mk hs; have HR := Aside0.mk hrd; clear hs hrd hba))
    | (go_at_call 60; ((with_reducible refine (spec_l71Set (W := wa) hS HR.out (by omega)).mono ?_); rintro e wb ⟨v1, l1, rfl, hr1, hd1, p1, g0, g1, hrb, hgb⟩; have HD1 := Aside0.mk hd1; have HO := Aside0.mk (R_off hr1 HR.out.lt); have HV := Aside0.mk (show wb.grownBy wb (some rb) from ⟨rfl, rfl, rfl, Nat.le_refl _, fun _ _ _ => rfl⟩); replace HR := Aside0.mk hrb; clear hr1 hd1 hrb hgb)))
  go_upto_if 12 with (go_at_call 65; ((with_reducible refine (spec_pick hS.out HR.out (by omega) _ (by omega) (by omega)).mono ?_); rintro e w' ⟨t, rfl, t0, t1, hr, hg⟩; replace HO := Aside0.mk (R_pick HO.out hg (fun q hq => by first | exact hq | exact hq.1 | exact hq.2)); replace HV := Aside0.mk (gthen HV.out hg); replace HR := Aside0.mk hr; clear hr hg))
  by_cases ht0 : t = 0
  · have htb : (t == 0) = true := by rw [ht0]; rfl
    have HT := Aside0.mk ht0
    clear ht0
    go_upto_region 4 with fail
    have HR0 := Aside0.mk (HR.out.below (below_drew (Below.refl _ _)))
    have HV0 := Aside0.mk (grownBy_after HV.out (below_drew (Below.refl _ _)))
    go_region_with (first
      | (go_at_call 65; ((with_reducible refine (spec_pick hS.out ((HR.out.alloc (.cells #[.int .i64 0, .int .i64 8, .int .i64 (-1)] 3)).drew) (by omega) 3 (by omega) (by omega)).mono ?_); rintro e w3 ⟨j, rfl, j0, j1, hr, hg⟩; obtain ⟨m, rfl⟩ := Int.eq_ofNat_of_zero_le j0; obtain ⟨x, hx, hxx⟩ := lit3 (blk_grown (W := (w'.alloc (.cells #[.int .i64 0, .int .i64 8, .int .i64 (-1)] 3)).drew) (show (w'.alloc (.cells #[.int .i64 0, .int .i64 8, .int .i64 (-1)] 3)).heap[w'.heap.size]? = _ from blk_new w' _) hg (by have := HR.out.lt; intro e; have := Option.some.inj e; omega)) m (by omega); have HR3 := Aside0.mk (hr); have HO3 := Aside0.mk (R_pick (R_drew (R_alloc HO.out (.cells #[.int .i64 0, .int .i64 8, .int .i64 (-1)] 3))) hg (fun q hq => hq)); clear hr hg))
      | (go_at_call 65; ((with_reducible refine (spec_pick hS.out (HR0.out) (by omega) 3 (by omega) (by omega)).mono ?_); rintro e w3 ⟨j, rfl, j0, j1, hr, hg⟩; obtain ⟨m, rfl⟩ := Int.eq_ofNat_of_zero_le j0; obtain ⟨x, hx, hxx⟩ := lit3 (blk_new w3 (.cells #[.int .i64 0, .int .i64 8, .int .i64 (-1)] 3)) m (by omega); have HR3 := Aside0.mk (hr.alloc (.cells #[.int .i64 0, .int .i64 8, .int .i64 (-1)] 3)); have HO3 := Aside0.mk (R_alloc (R_pick (R_drew HO.out) hg (fun q hq => hq)) (.cells #[.int .i64 0, .int .i64 8, .int .i64 (-1)] 3)); clear hr hg)))
    all_goals
      go_wp2
      go_ret2
      exact SetNP.mk (Sl.of_R HO3.out) HD1.out (by omega) (by omega) HR3.out.bel
  · have htb : (t == 0) = false := by simp [ht0]
    go_wp2_with (go_at_call 65; ((with_reducible refine (spec_pick hS.out HR.out (by omega) 7 (by omega) (by omega)).mono ?_); rintro e w' ⟨j, rfl, j0, j1, hr, hg⟩; replace HO := Aside0.mk (R_pick HO.out hg (fun q hq => by first | exact hq | exact hq.1 | exact hq.2)); replace HV := Aside0.mk (gthen HV.out hg); replace HR := Aside0.mk hr; clear hr hg))
    go_ret2
    exact SetNP.mk (Sl.of_R HO.out) HD1.out (by omega) (by omega) HR.out.bel
end Go.Proofs.Ytbbkimgadohdkaa.X
