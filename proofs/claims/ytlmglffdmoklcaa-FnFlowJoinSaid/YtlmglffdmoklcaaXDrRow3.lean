/- Draws of rows, some spoilt. Conditions: a reader of at most 2000 bytes, few draws so far. -/
import Derived.Test.YtlmglffdmoklcaaXDrRow2
namespace Go.Proofs.Ytlmglffdmoklcaa.X
open Go.RowKit Go.Proofs.YtlmglffdmoklcaaW.PrintWords
set_option linter.unusedVariables false
set_option linter.unusedSimpArgs false

set_option maxRecDepth 100000 in
set_option maxHeartbeats 2000000 in
theorem spec_l71Any {w0 W : World} {rb : Nat} {s : List Int} {p : Int} (hS : Aside0 (RS s)) (h : Rd w0 rb s p W) (hp : p ≤ 400000) :
    Calls Try.prog 68 #[.pointer (some ⟨rb, 0, none⟩)] W (RowsP w0 rb s p W) := by
  have hbl := h.lt
  have hbs := h.bel.size
  have hnn := h.nn
  have C1 := spec_l71Rows hS h (by omega) 10 (by omega)
  rw [show ((10 : Nat) : Int) = 10 from rfl] at C1
  have HR := Aside0.mk h
  have HV := Aside0.mk (show W.grownBy W (some rb) from ⟨rfl, rfl, rfl, Nat.le_refl _, fun _ _ _ => rfl⟩)
  clear h
  go_enter Try.func68, Try.ntmps68
  go_upto_region 2 with (go_at_call 126; ((with_reducible refine C1.mono ?_); rintro e wa ⟨va, la, rfl, hra, hsm, hla, hadv⟩; have HLA := Aside0.mk hsm; have HO := Aside0.mk (R_off hra hbl); obtain ⟨p1, g0, g1, hr1, hg1⟩ := hadv; replace HR := Aside0.mk hr1; replace HV := Aside0.mk hg1; clear hr1 hg1 hra hsm))
  clear C1
  go_upto_if 8 with (go_at_call 85; ((with_reducible refine (spec_pick hS.out HR.out (by omega) 14 (by omega) (by omega)).mono ?_); rintro e w' ⟨t, rfl, t0, t1, hr, hg⟩; replace HO := Aside0.mk (R_pick HO.out hg (fun q hq => by first | exact hq | exact hq.1 | exact hq.2)); replace HV := Aside0.mk (gthen HV.out hg); replace HR := Aside0.mk hr; clear hr hg))
  by_cases ht0 : t = 0
  · have htb : (t == 0) = true := by rw [ht0]; rfl
    have hgs := HV.out.size
    go_wp2_with (go_at_call 127; ((with_reducible refine (spec_l71Spoil hS HR.out (by omega) va la (Sl.of_R HO.out) (Kd.R_lower HO.out (by omega)) hla).mono ?_); rintro e w3 ⟨v2, l2, rfl, hr2, hd2, p3, g3, g4, hrd, hg⟩; have HO2 := Aside0.mk (Kd.R_lower hr2 hgs); have HD := Aside0.mk hd2; have HR3 := Aside0.mk hrd; have HV3 := Aside0.mk (gthen HV.out hg); clear hr2 hd2 hrd hg))
    go_ret
    exact RowsP.mk HO2.out HD.out ⟨p3, by omega, by omega, HR3.out, HV3.out⟩
  · have htb : (t == 0) = false := by simp [ht0]
    go_wp2
    go_ret
    exact RowsP.mk (Kd.R_mono HO.out (fun _ _ => trivial)) (RowsD.good hla HLA.out) ⟨p1 + 1, by omega, by omega, HR.out, HV.out⟩
/-- rows drawn twice -/
def Row2P (w : World) (e : Ending) (w' : World) : Prop := ∃ (v v2 : Value) (l m : List Rw), e = .returned (.tuple #[v, v2]) ∧ Sl kRw w' v l ∧ Sl kRw w' v2 m ∧ RowsD l ∧ RowsD m ∧ Below w.heap.size w w'
theorem Row2P.mk {w w' : World} {v v2 : Value} {l m : List Rw} (h1 : Sl kRw w' v l) (h2 : Sl kRw w' v2 m) (h3 : RowsD l) (h4 : RowsD m) (h5 : Below w.heap.size w w') : Row2P w (.returned (.tuple #[v, v2])) w' := ⟨v, v2, l, m, rfl, h1, h2, h3, h4, h5⟩
set_option maxRecDepth 100000 in
set_option maxHeartbeats 2000000 in
theorem spec_DrawBatchBoth (v : Value) (l : List Int) (w : World) (h : Sl kB w v l) (hb : ∀ x ∈ l, 0 ≤ x ∧ x ≤ 255) : Calls Try.prog 80 #[v] w (Row2P w) := by
  have C1 := spec_l6Open v l w h hb
  go_enter Try.func80, Try.ntmps80
  go_wp2_with (first
    | (go_at_call 69; ((with_reducible refine C1.mono ?_); rintro e wa ⟨rb, s, rfl, hs, hrd, hba⟩; have HS := Aside0.mk hs; have HR := Aside0.mk hrd; clear hs hrd hba))
    | (go_at_call 68; ((with_reducible refine (spec_l71Any (W := wa) HS HR.out (by omega)).mono ?_); rintro e wb ⟨v1, l1, rfl, hr1, hd1, p1, g0, g1, hrb, hgb⟩; have HD1 := Aside0.mk hd1; have HO1 := Aside0.mk (R_off hr1 HR.out.lt); have HR1 := Aside0.mk hrb; have hbl := HR1.out.lt; clear hr1 hd1 hrb hgb))
    | (go_at_call 68; ((with_reducible refine (spec_l71Any (W := wb) HS HR1.out (by omega)).mono ?_); rintro e wc ⟨v2, l2, rfl, hr2, hd2, p2, g2, g3, hrc, hgc⟩; have HD2 := Aside0.mk hd2; have HO2 := Aside0.mk (Sl.of_R hr2); have HO3 := Aside0.mk (Sl.of_R (R_pick HO1.out hgc (fun q hq => hq))); have HB := Aside0.mk hrc.bel; clear hr2 hd2 hrc hgc)))
  go_ret2
  exact Row2P.mk HO3.out HO2.out HD1.out HD2.out HB.out
set_option maxRecDepth 100000 in
set_option maxHeartbeats 2000000 in
theorem spec_DrawFlowJoin (v : Value) (l : List Int) (w : World) (h : Sl kB w v l) (hb : ∀ x ∈ l, 0 ≤ x ∧ x ≤ 255) : Calls Try.prog 26 #[v] w (Row2P w) := by
  have C1 := spec_DrawBatchBoth v l w h hb
  go_enter Try.func26, Try.ntmps26
  go_wp2_with (go_at_call 80; ((with_reducible refine C1.mono ?_); rintro e wa ⟨v1, v2, l1, l2, rfl, h1, h2, h3, h4, h5⟩; have H1 := Aside0.mk h1; have H2 := Aside0.mk h2; have H3 := Aside0.mk h3; have H4 := Aside0.mk h4; have H5 := Aside0.mk h5; clear h1 h2 h3 h4 h5))
  go_ret2
  exact Row2P.mk H1.out H2.out H3.out H4.out H5.out
/-- drawn rows and a number -/
def RowNP (w : World) (e : Ending) (w' : World) : Prop := ∃ (v : Value) (l : List Rw) (n : Int), e = .returned (.tuple #[v, .int .i64 n]) ∧ Sl kRw w' v l ∧ RowsD l ∧ (-1 ≤ n ∧ n ≤ 8) ∧ Below w.heap.size w w'
theorem RowNP.mk {w w' : World} {v : Value} {l : List Rw} {n : Int} (h1 : Sl kRw w' v l) (h3 : RowsD l) (h0 : -1 ≤ n) (h2 : n ≤ 8) (h5 : Below w.heap.size w w') : RowNP w (.returned (.tuple #[v, .int .i64 n])) w' := ⟨v, l, n, rfl, h1, h3, ⟨h0, h2⟩, h5⟩
set_option maxRecDepth 100000 in
set_option maxHeartbeats 2000000 in
theorem spec_DrawFlowEach (v : Value) (l : List Int) (w : World) (h : Sl kB w v l) (hb : ∀ x ∈ l, 0 ≤ x ∧ x ≤ 255) : Calls Try.prog 30 #[v] w (RowNP w) := by
  have C1 := spec_l6Open v l w h hb
  go_enter Try.func30, Try.ntmps30
  go_upto_region 3 with (first
    | (go_at_call 69; ((with_reducible refine C1.mono ?_); rintro e wa ⟨rb, s, rfl, hs, hrd, hba⟩; have hS := Aside0.mk hs; have HR := Aside0.mk hrd; clear hs hrd hba))
    | (go_at_call 68; ((with_reducible refine (spec_l71Any (W := wa) hS HR.out (by omega)).mono ?_); rintro e wb ⟨v1, l1, rfl, hr1, hd1, p1, g0, g1, hrb, hgb⟩; have HD1 := Aside0.mk hd1; have HO := Aside0.mk (R_off hr1 HR.out.lt); have HV := Aside0.mk (show wb.grownBy wb (some rb) from ⟨rfl, rfl, rfl, Nat.le_refl _, fun _ _ _ => rfl⟩); replace HR := Aside0.mk hrb; clear hr1 hd1 hrb hgb)))
  go_upto_if 12 with (go_at_call 85; ((with_reducible refine (spec_pick hS.out HR.out (by omega) _ (by omega) (by omega)).mono ?_); rintro e w' ⟨t, rfl, t0, t1, hr, hg⟩; replace HO := Aside0.mk (R_pick HO.out hg (fun q hq => by first | exact hq | exact hq.1 | exact hq.2)); replace HV := Aside0.mk (gthen HV.out hg); replace HR := Aside0.mk hr; clear hr hg))
  by_cases ht0 : t = 0
  · have htb : (t == 0) = true := by rw [ht0]; rfl
    have HT := Aside0.mk ht0
    clear ht0
    go_upto_region 4 with fail
    have HR0 := Aside0.mk (HR.out.below (below_drew (Below.refl _ _)))
    have HV0 := Aside0.mk (grownBy_after HV.out (below_drew (Below.refl _ _)))
    go_region_with (first
      | (go_at_call 85; ((with_reducible refine (spec_pick hS.out ((HR.out.alloc (.cells #[.int .i64 0, .int .i64 8, .int .i64 (-1)] 3)).drew) (by omega) 3 (by omega) (by omega)).mono ?_); rintro e w3 ⟨j, rfl, j0, j1, hr, hg⟩; obtain ⟨m, rfl⟩ := Int.eq_ofNat_of_zero_le j0; obtain ⟨x, hx, hxx⟩ := lit3 (blk_grown (W := (w'.alloc (.cells #[.int .i64 0, .int .i64 8, .int .i64 (-1)] 3)).drew) (show (w'.alloc (.cells #[.int .i64 0, .int .i64 8, .int .i64 (-1)] 3)).heap[w'.heap.size]? = _ from blk_new w' _) hg (by have := HR.out.lt; intro e; have := Option.some.inj e; omega)) m (by omega); have HR3 := Aside0.mk (hr); have HO3 := Aside0.mk (R_pick (R_drew (R_alloc HO.out (.cells #[.int .i64 0, .int .i64 8, .int .i64 (-1)] 3))) hg (fun q hq => hq)); clear hr hg))
      | (go_at_call 85; ((with_reducible refine (spec_pick hS.out (HR0.out) (by omega) 3 (by omega) (by omega)).mono ?_); rintro e w3 ⟨j, rfl, j0, j1, hr, hg⟩; obtain ⟨m, rfl⟩ := Int.eq_ofNat_of_zero_le j0; obtain ⟨x, hx, hxx⟩ := lit3 (blk_new w3 (.cells #[.int .i64 0, .int .i64 8, .int .i64 (-1)] 3)) m (by omega); have HR3 := Aside0.mk (hr.alloc (.cells #[.int .i64 0, .int .i64 8, .int .i64 (-1)] 3)); have HO3 := Aside0.mk (R_alloc (R_pick (R_drew HO.out) hg (fun q hq => hq)) (.cells #[.int .i64 0, .int .i64 8, .int .i64 (-1)] 3)); clear hr hg)))
    all_goals
      go_wp2
      go_ret2
      exact RowNP.mk (Sl.of_R HO3.out) HD1.out (by omega) (by omega) HR3.out.bel
  · have htb : (t == 0) = false := by simp [ht0]
    go_wp2_with (go_at_call 85; ((with_reducible refine (spec_pick hS.out HR.out (by omega) 7 (by omega) (by omega)).mono ?_); rintro e w' ⟨j, rfl, j0, j1, hr, hg⟩; replace HO := Aside0.mk (R_pick HO.out hg (fun q hq => by first | exact hq | exact hq.1 | exact hq.2)); replace HV := Aside0.mk (gthen HV.out hg); replace HR := Aside0.mk hr; clear hr hg))
    go_ret2
    exact RowNP.mk (Sl.of_R HO.out) HD1.out (by omega) (by omega) HR.out.bel
end Go.Proofs.Ytlmglffdmoklcaa.X
