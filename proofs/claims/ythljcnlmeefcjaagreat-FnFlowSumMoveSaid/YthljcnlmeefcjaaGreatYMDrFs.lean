/- Draws of rows and a kind of sum. Conditions: a reader of at most 2000 bytes, few draws so far. -/
import Derived.Test.YthljcnlmeefcjaaGreatYMDr
namespace Go.Proofs.YthljcnlmeefcjaaGreat.X
open Go.RowKit Go.Proofs.YthljcnlmeefcjaaGreatW.PrintWords
set_option linter.unusedVariables false
set_option linter.unusedSimpArgs false

theorem dOk_set {l : List Rw} {k : Nat} {x y : Rw} (h : ∀ r ∈ l, dOk r) (hx : l[k]? = some x) (hy : y.f3 = x.f3) : ∀ r ∈ l.set k y, dOk r := fun r hr => by
  rcases List.mem_or_eq_of_mem_set hr with hr | rfl
  · exact h r hr
  · have := h x (List.mem_of_getElem? hx)
    unfold dOk at this ⊢
    rw [hy]; exact this
theorem set_get {l : List Rw} {k : Nat} {y : Rw} (hk : k < l.length) : (l.set k y)[k]? = some y := by rw [List.getElem?_set, if_pos rfl, if_pos hk]
/-- drawn rows and a kind -/
def RowSP (w : World) (e : Ending) (w' : World) : Prop := ∃ (v : Value) (l : List Rw) (n : Int), e = .returned (.tuple #[v, .int .i64 n]) ∧ Sl kRw w' v l ∧ l.length ≤ 11 ∧ (∀ r ∈ l, dOk r) ∧ (-1 ≤ n ∧ n ≤ 4) ∧ Below w.heap.size w w'
theorem RowSP.mk {w w' : World} {v : Value} {l : List Rw} {n : Int} (h1 : Sl kRw w' v l) (h3 : l.length ≤ 11) (h4 : ∀ r ∈ l, dOk r) (h0 : -1 ≤ n) (h2 : n ≤ 4) (h5 : Below w.heap.size w w') : RowSP w (.returned (.tuple #[v, .int .i64 n])) w' := ⟨v, l, n, rfl, h1, h3, h4, ⟨h0, h2⟩, h5⟩
set_option maxRecDepth 100000 in
set_option maxHeartbeats 4000000 in
theorem spec_DrawFlowSum (v : Value) (l : List Int) (w : World) (h : Sl kB w v l) (hb : ∀ x ∈ l, 0 ≤ x ∧ x ≤ 255) : Calls Tryz.prog 7 #[v] w (RowSP w) := by
  have C1 := spec_l6Open v l w h hb
  go_enter Tryz.func7, Tryz.ntmps7
  go_upto_region 3 with (first
    | (go_at_call 33; ((with_reducible refine C1.mono ?_); rintro e wa ⟨rb, s, rfl, hs, hrd, hba⟩; have hS := Aside0.mk hs; have HR := Aside0.mk hrd; have hbl := hrd.lt; clear hs hrd hba))
    | (go_at_call 34; ((with_reducible refine (spec_l71Any (W := wa) hS HR.out (by omega)).mono ?_); rintro e wb ⟨v1, l1, rfl, hr1, hd1, p1, g0, g1, hrb, hgb⟩; have hl1 := hd1.1; have HDD := Aside0.mk hd1.2.2; have HO := Aside0.mk (R_off hr1 HR.out.lt); replace HR := Aside0.mk hrb; clear hr1 hd1 hrb hgb)))
  clear C1
  obtain ⟨A3, c3, rfl, hc3, hC3⟩ := Sl.of_R HO.out
  have hm3 := Kd.C_max hC3
  clear hC3
  obtain ⟨n0, hn0⟩ : ∃ n0, n0 = l1.length := ⟨_, rfl⟩
  rw [← hn0] at HO hl1 hm3 hc3 ⊢
  have HN0 := Aside0.mk hn0
  clear hn0
  go_upto_block 0 with fail
  go_cut [] (fun wc => ∃ (lx : List Rw) (p2 : Int), 0 ≤ p2 ∧ p2 ≤ 200 ∧ lx.length = n0 ∧ Aside0 (∀ r ∈ lx, dOk r) ∧ Aside0 (kRw.R 65 wc wa.heap.size (fun q => q ≠ rb) (.slice A3 n0 c3) lx) ∧ Aside0 (Rd w rb s p2 wc))
  case first =>
    go_wp2
    go_loopw [6] (fun i wr => ∃ (k : Nat) (lx : List Rw) (p2 : Int), k ≤ n0 ∧ i = .int .i64 k ∧ 0 ≤ p2 ∧ p2 ≤ 131 + k ∧ lx.length = n0 ∧ Aside0 (∀ r ∈ lx, dOk r) ∧ Aside0 (kRw.R 65 wr wa.heap.size (fun q => q ≠ rb) (.slice A3 n0 c3) lx) ∧ Aside0 (Rd w rb s p2 wr)) (fun i _ => n0 - (intOf i).toNat)
    case atStart => exact ⟨0, l1, p1, Nat.zero_le _, rfl, by omega, by omega, HN0.out.symm, HDD, HO, HR⟩
    case round =>
      clear HO HR HDD
      obtain ⟨k, lx, p2, hk, rfl, hp0, hp1, hlx, HDD, HO, HR⟩ := hrel
      by_cases hlt : k < n0
      · go_upto_if 19 with (go_at_call 35; ((with_reducible refine (spec_pick hS.out HR.out (by omega) _ (by omega) (by omega)).mono ?_); rintro e w' ⟨t, rfl, t0, t1, hr, hg⟩; replace HO := Aside0.mk (R_pick HO.out hg (fun q hq => hq)); replace HR := Aside0.mk hr; clear hr hg))
        cases hgt : decide (0 < t)
        · go_wp2
          go_meet
          case rel => exact ⟨lx, p2 + 1, by omega, by omega, hlx, HDD, HO, HR⟩
        · clear hgt
          obtain ⟨g, cap, e, hg1, hg2⟩ := formR HO.out (n := n0) hlx (by omega)
          cases e
          obtain ⟨x, hx⟩ : ∃ x, lx[k]? = some x := ⟨_, List.getElem?_eq_getElem (by omega)⟩
          obtain ⟨ad, x', e, HX', h0, h1, h2, h3, h4⟩ := rdRw (xs := lx) ((Kd.R_reads' HO.out).2.2) (Below.refl _ _) (k := k) (by omega)
          cases e
          have ex : x' = x := Option.some.inj (HX'.out.symm.trans hx)
          subst ex
          have h0' : w'.cell? ⟨g, k * 5, none⟩ = some (.int .i64 x'.f0) := by rw [add_plain] at h0; exact h0
          clear h0 h1 h2 h3 h4
          go_upto_region 7 with (refine storeR1 (base := wa.heap.size) rfl rfl rfl k 0 x' ⟨Int.tmod x'.f0 2, x'.f1, x'.f2, x'.f3⟩ (Int.tmod x'.f0 2) (by first | rfl | simp) (by first | rfl | omega) (by first | rfl | (simp [*]; done)) (by kernel_rfl) HO.out hx hlt (by decide) rfl (Below.refl _ _) ?_; intro w1 hr1 hb1 hg1; have HO2 := Aside0.mk hr1; have HR2 := Aside0.mk (HR.out.belowB hb1 hbl); clear hr1 hb1 hg1)
          have hlx2 : (lx.set k ⟨Int.tmod x'.f0 2, x'.f1, x'.f2, x'.f3⟩).length = n0 := by rw [List.length_set]; exact hlx
          have HDD2 := Aside0.mk (dOk_set HDD.out hx (y := ⟨Int.tmod x'.f0 2, x'.f1, x'.f2, x'.f3⟩) rfl)
          have hx2 := set_get (l := lx) (k := k) (y := ⟨Int.tmod x'.f0 2, x'.f1, x'.f2, x'.f3⟩) (by omega)
          generalize hy : (⟨Int.tmod x'.f0 2, x'.f1, x'.f2, x'.f3⟩ : Rw) = y at *
          generalize lx.set k y = ly at *
          clear hx HX' h0' HO HR HDD hy
          obtain ⟨ad, y', e, HY', h0, h1, h2, h3, h4⟩ := rdRw (xs := ly) ((Kd.R_reads' HO2.out).2.2) (Below.refl _ _) (k := k) (by omega)
          cases e
          have ey : y' = y := Option.some.inj (HY'.out.symm.trans hx2)
          subst ey
          have h1' : w1.cell? ⟨g, k * 5 + 1, none⟩ = some (.int .i64 y'.f1) := by rw [add_plain] at h1; exact h1
          clear h0 h1 h2 h3 h4
          go_wp2_with (refine storeR1 (base := wa.heap.size) rfl rfl rfl k 1 y' ⟨y'.f0, Int.tmod y'.f1 4, y'.f2, y'.f3⟩ (Int.tmod y'.f1 4) (by first | rfl | simp) (by first | rfl | omega) (by first | rfl | (simp [*]; done)) (by kernel_rfl) HO2.out hx2 hlt (by decide) rfl (Below.refl _ _) ?_; intro w2 hr1 hb1 hg1; have HO3 := Aside0.mk hr1; have HR3 := Aside0.mk (HR2.out.belowB hb1 hbl); clear hr1 hb1 hg1)
          go_roundw
          case rel => exact ⟨k + 1, _, p2 + 1, by omega, by go_num, by omega, by omega, by rw [List.length_set]; exact hlx2, ⟨dOk_set HDD2.out hx2 (y := ⟨y'.f0, Int.tmod y'.f1 4, y'.f2, y'.f3⟩) rfl⟩, HO3, HR3⟩
          case measure => simp [intOf]; omega
      · go_wp2
        go_meet
        case rel => exact ⟨lx, p2, by omega, by omega, hlx, HDD, HO, HR⟩
  case rest =>
    clear HO HR HDD
    obtain ⟨lx, p2, hp0, hp1, hlx, HDD, HO, HR⟩ := hcut
    go_at_K
    go_upto_if 44 with (go_at_call 35; ((with_reducible refine (spec_pick hS.out HR.out (by omega) _ (by omega) (by omega)).mono ?_); rintro e w' ⟨t, rfl, t0, t1, hr, hg⟩; replace HO := Aside0.mk (R_pick HO.out hg (fun q hq => hq)); replace HR := Aside0.mk hr; clear hr hg))
    by_cases ht0 : t = 0
    · have htb : (t == 0) = true := by rw [ht0]; rfl
      have HT := Aside0.mk ht0
      clear ht0
      go_upto_region 9 with fail
      have HR0 := Aside0.mk (HR.out.below (below_drew (Below.refl _ _)))
      go_region_with (first
        | (go_at_call 35; ((with_reducible refine (spec_pick hS.out ((HR.out.alloc (.cells #[.int .i64 0, .int .i64 4, .int .i64 (-1)] 3)).drew) (by omega) 3 (by omega) (by omega)).mono ?_); rintro e w3 ⟨j, rfl, j0, j1, hr, hg⟩; obtain ⟨m, rfl⟩ := Int.eq_ofNat_of_zero_le j0; obtain ⟨x, hx, hxx⟩ := lit3 (blk_grown (W := (w'.alloc (.cells #[.int .i64 0, .int .i64 4, .int .i64 (-1)] 3)).drew) (show (w'.alloc (.cells #[.int .i64 0, .int .i64 4, .int .i64 (-1)] 3)).heap[w'.heap.size]? = _ from blk_new w' _) hg (by have := HR.out.lt; intro e; have := Option.some.inj e; omega)) m (by omega); have HR3 := Aside0.mk (hr); have HO3 := Aside0.mk (R_pick (R_drew (R_alloc HO.out (.cells #[.int .i64 0, .int .i64 4, .int .i64 (-1)] 3))) hg (fun q hq => hq)); clear hr hg))
        | (go_at_call 35; ((with_reducible refine (spec_pick hS.out (HR0.out) (by omega) 3 (by omega) (by omega)).mono ?_); rintro e w3 ⟨j, rfl, j0, j1, hr, hg⟩; obtain ⟨m, rfl⟩ := Int.eq_ofNat_of_zero_le j0; obtain ⟨x, hx, hxx⟩ := lit3 (blk_new w3 (.cells #[.int .i64 0, .int .i64 4, .int .i64 (-1)] 3)) m (by omega); have HR3 := Aside0.mk (hr.alloc (.cells #[.int .i64 0, .int .i64 4, .int .i64 (-1)] 3)); have HO3 := Aside0.mk (R_alloc (R_pick (R_drew HO.out) hg (fun q hq => hq)) (.cells #[.int .i64 0, .int .i64 4, .int .i64 (-1)] 3)); clear hr hg)))
      all_goals
        go_wp2
        go_ret2
        exact RowSP.mk (l := lx) (Sl.of_R HO3.out) (by omega) HDD.out (by omega) (by omega) HR3.out.bel
    · have htb : (t == 0) = false := by simp [ht0]
      go_wp2_with (go_at_call 35; ((with_reducible refine (spec_pick hS.out HR.out (by omega) _ (by omega) (by omega)).mono ?_); rintro e w' ⟨t, rfl, t0, t1, hr, hg⟩; replace HO := Aside0.mk (R_pick HO.out hg (fun q hq => hq)); replace HR := Aside0.mk hr; clear hr hg))
      go_ret2
      exact RowSP.mk (l := lx) (Sl.of_R HO.out) (by omega) HDD.out (by omega) (by omega) HR.out.bel
end Go.Proofs.YthljcnlmeefcjaaGreat.X

