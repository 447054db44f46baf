/- The walks of the changes of sums: impl.flowSum, impl.FlowSum. Conditions: none. -/
import Derived.Test.YthljcnlmeefcjaaGreatYMFs
namespace Go.Proofs.YthljcnlmeefcjaaGreat.X
open Go.RowKit Go.Proofs.YthljcnlmeefcjaaGreatW.PrintWords
set_option linter.unusedVariables false
set_option linter.unusedSimpArgs false

theorem R_side {α β : Type} {d : Kd α} {d2 : Kd β} {e e2 : Nat} {w w1 : World} {b b2 : Nat} {ok ok2 : Nat → Prop} {v v2 : Value} {xs : List α} {ys : List β} (h : d.R e w b ok v xs) (hg : w.grownBy w1 v.ownBlock) (k : d2.R e2 w b2 ok2 v2 ys) (hne : ∀ q, ok2 q → ¬ ok q) : d2.R e2 w1 b2 ok2 v2 ys :=
  Kd.R_kept k (Kept.of_grown hg (Kept.refl w ok) (fun q hq => .inl (h.1 q hq))) hne
set_option maxRecDepth 100000 in
set_option maxHeartbeats 8000000 in
theorem impl_flowSum (v : Value) (a : List Rw) (kind : Int) (w : World) (h : Sl kRw w v a) (ha0 : ∀ r ∈ a, rowOk r = true) (hl : a.length ≤ 400) (k1 : 1 ≤ kind) (k3 : kind ≤ 3) : Calls Tryz.prog 38 #[v, .int .i64 kind] w (BatchP w (sum (allSum a kind))) := by
  have HS := Aside0.mk h
  obtain ⟨A, c_, rfl, HC, hr⟩ := h
  have hm := Kd.C_max hr
  have HR := Aside0.mk hr
  clear hr
  have HA := Aside0.mk ha0
  have HFA := Aside0.mk (show RwFit (allTo a kind 4) from allTo_fit ha0 k1 k3)
  have HLA := Aside0.mk (allTo_len ha0 k1 k3)
  clear ha0
  have HN := Aside0.mk (R_none (d := kRw) (e := 65) (base := w.heap.size) (ok := okT) (blk_new w (.cells #[] 65)) (Nat.le_refl _) trivial)
  have HB := Aside0.mk (Below.refl w.heap.size w)
  go_enter Tryz.func38, Tryz.ntmps38
  replace HB := Aside0.mk (below_alloc HB.out (.cells #[] 65))
  go_wp2
  go_loopw [6, 7] (fun o i wr => ∃ (k : Nat), k ≤ 4 ∧ i = .int .i64 k ∧ Aside0 (kRw.R 65 wr w.heap.size okT o (allTo a kind k)) ∧ Aside0 (Below w.heap.size w wr)) (fun _ i _ => 4 - (intOf i).toNat)
  case atStart => exact ⟨0, Nat.zero_le _, rfl, HN, HB⟩
  case round =>
    clear HB HN
    obtain ⟨k, hk, rfl, HALL, HB⟩ := hrel
    by_cases hlt : k < 4
    · have hlt' : (k : Int) < 4 := by omega
      rename World => Wk
      have HALL0 := Aside0.mk (Kd.R_mono (Kd.R_bound HALL.out) (ok' := fun q => q < Wk.heap.size) (fun q hq => hq.2.2.1))
      have HBK := HB
      have HN1 := Aside0.mk (R_none (d := kRw) (e := 65) (base := Wk.heap.size) (ok := okT) (blk_new Wk (.cells #[] 65)) (Nat.le_refl _) trivial)
      replace HB := Aside0.mk (below_alloc (Below.refl Wk.heap.size Wk) (.cells #[] 65))
      clear HALL
      go_wp2
      go_loopw [8, 27] (fun o i wr => ∃ (j : Nat), j ≤ a.length ∧ i = .int .i64 j ∧ Aside0 (kRw.R 65 wr Wk.heap.size okT o (ownK (a.take j) (k : Int))) ∧ Aside0 (Below Wk.heap.size Wk wr)) (fun _ i _ => a.length - (intOf i).toNat)
      case atStart => exact ⟨0, Nat.zero_le _, rfl, HN1, HB⟩
      case round =>
        clear HB HN1
        obtain ⟨j, hj, rfl, HO, HB⟩ := hrel
        have hol : (ownK (a.take j) (k : Int)).length ≤ 400 := by have := ownK_len (a.take j) (k : Int); rw [List.length_take] at this; omega
        by_cases hlt2 : j < a.length
        · obtain ⟨ad, x, e, HX, h0, h1, h2, h3, h4⟩ := rdRw HR.out (bthen HBK.out HB.out) hlt2
          cases e
          have hcs := Aside0.mk (ownK_snoc HX.out (k : Int))
          go_upto_region 9 with fail
          refine name_world fun W hW => ?_
          have B0 : W.heap[wr.heap.size]? = some (.cells #[.int .i64 x.f0, .int .i64 x.f1, .int .i64 x.f2.f0, .int .i64 x.f2.f1, .int .i64 x.f3] 65 (0, 0)) := by rw [hW]; exact blk_new wr _
          have hb1 : Below wr.heap.size wr W := by rw [hW]; repeat (first | exact Below.refl _ _ | apply below_alloc | refine below_set ?_ (by simp))
          clear hW
          generalize hX : wr.heap.size = X at B0 ⊢
          have HO1 := Aside0.mk (Kd.R_below HO.out hb1)
          replace HB := Aside0.mk (bthen HB.out hb1)
          have b0 : W.cell? ⟨X, 0, none⟩ = some (.int .i64 x.f0) := blk_cell B0 0
          have b1 : W.cell? ⟨X, 1, none⟩ = some (.int .i64 x.f1) := blk_cell B0 1
          have b2 : W.cell? ⟨X, 2, none⟩ = some (.int .i64 x.f2.f0) := blk_cell B0 2
          have b3 : W.cell? ⟨X, 3, none⟩ = some (.int .i64 x.f2.f1) := blk_cell B0 3
          have b4 : W.cell? ⟨X, 4, none⟩ = some (.int .i64 x.f3) := blk_cell B0 4
          clear h0 h1 h2 h3 h4 hb1 hX B0 HO
          by_cases hd : x.f0 = (k : Int)
          · have hdb : (x.f0 == (k : Int)) = true := by simpa using hd
            have HD := Aside0.mk hd
            clear hd
            go_wp2_with (at_builtin; refine appRw (w0 := Wk) (base := Wk.heap.size) (xs := ownK (a.take j) (k : Int)) (ok := okT) rfl rfl rfl HO1.out (fun _ _ => trivial) HB.out (by have := HB.out.size; omega) (by omega) ?_; intro v1 w1 hr1 hb1 hg1 ha1; have HO2 := Aside0.mk hr1; have HG_ := Aside0.mk hg1; replace HB := Aside0.mk hb1; clear hr1 hb1 hg1 ha1)
            go_roundw
            case rel => exact ⟨j + 1, by omega, by go_num, ⟨by rw [hcs.out, if_pos HD.out]; exact HO2.out⟩, HB⟩
            case measure => simp [intOf]; omega
          · have hdb : (x.f0 == (k : Int)) = false := by simpa using hd
            have HD := Aside0.mk hd
            clear hd
            go_wp2
            go_roundw
            case rel => exact ⟨j + 1, by omega, by go_num, ⟨by rw [hcs.out, if_neg HD.out, List.append_nil]; exact HO1.out⟩, HB⟩
            case measure => simp [intOf]; omega
        · obtain rfl : j = a.length := by omega
          rw [List.take_length] at HO hol
          have HOWN := Aside0.mk (Sl.of_R HO.out)
          rename World => W1
          have HBW1 := HB
          have hN1 := HB.out.size
          have HM0 := Aside0.mk (R_none (d := kRw) (e := 65) (base := W1.heap.size) (ok := okT) (blk_new W1 (.cells #[] 65)) (Nat.le_refl _) trivial)
          replace HB := Aside0.mk (below_alloc (Below.refl W1.heap.size W1) (.cells #[] 65))
          have hs1 : (W1.alloc (.cells #[] 65)).heap.size = W1.heap.size + 1 := by simp
          have HS1 := Aside0.mk hs1
          clear hs1 HO
          go_upto_block 0 with (go_at_call 71; ((with_reducible refine (impl_FlowTimes _ a (k : Int) _ (HS.out.below (bthen (bthen HBK.out HBW1.out) HB.out))).mono ?_); rintro e wt ⟨vt, rfl, hr, hb⟩; have HT := Aside0.mk (show kTm.R 49 wt W1.heap.size (fun q => W1.heap.size < q ∧ q < wt.heap.size) vt (flowTimes a (k : Int)) from Kd.R_lower (Kd.R_mono (Kd.R_bound hr) (fun q hq => ⟨by have := hq.2.1; have := HS1.out; omega, hq.2.2.1⟩)) (by have := HS1.out; omega)); have HM := Aside0.mk (Kd.R_below (Kd.R_mono (Kd.R_bound HM0.out) (ok' := fun q => q ≤ W1.heap.size ∨ wt.heap.size ≤ q) (fun q hq => Or.inl (by have := hq.2.2.1; have := HS1.out; omega))) hb); have hsz := hb.size; replace HB := Aside0.mk (bthen HB.out hb); obtain ⟨A5, c5, rfl, hc5, hC5⟩ := Sl.of_R HT.out; have hm5 := Kd.C_max hC5; clear hr hb hC5))
          have HTO := Aside0.mk (flowTimes_ok a (k : Int))
          have htl := flowTimes_len' a (k : Int)
          have HMO := Aside0.mk (sumTo_ok (key := (k : Int)) (kind := kind) HA.out (by omega) (by omega) k1 k3 HTO.out)
          have HSK := Aside0.mk (sumKey_to a kind (k : Int))
          generalize flowTimes a (k : Int) = ts at *
          have hT2 : W1.heap.size + 1 ≤ wt.heap.size := by have := HS1.out; omega
          clear hsz HM0
          go_wp2
          go_loopw [11, 45] (fun m i wr => ∃ (j : Nat), j ≤ ts.length ∧ i = .int .i64 j ∧ Aside0 (kRw.R 65 wr W1.heap.size (fun q => q ≤ W1.heap.size ∨ wt.heap.size ≤ q) m (sumTo (ownK a (k : Int)) kind (ts.take j))) ∧ Aside0 (kTm.R 49 wr W1.heap.size (fun q => W1.heap.size < q ∧ q < wt.heap.size) (.slice A5 ts.length c5) ts) ∧ Aside0 (Below W1.heap.size W1 wr) ∧ wt.heap.size ≤ wr.heap.size) (fun _ i _ => ts.length - (intOf i).toNat)
          case atStart => exact ⟨0, Nat.zero_le _, rfl, HM, HT, HB, Nat.le_refl _⟩
          case round =>
            clear HM HT HB
            obtain ⟨j, hj, rfl, HM, HT, HB, hwr⟩ := hrel
            have HMJ := Aside0.mk (HMO.out j hj)
            by_cases hlt2 : j < ts.length
            · obtain ⟨ad, t, e, HTT, h0, h1⟩ := rdTm (Kd.R_reads' HT.out).2.2 (Below.refl _ _) hlt2
              cases e
              have HSN := Aside0.mk (sumTo_snoc (ownK a (k : Int)) kind HTT.out)
              generalize sumTo (ownK a (k : Int)) kind (ts.take j) = ms at *
              have htok := HTO.out t (List.mem_of_getElem? HTT.out)
              have hmlen := HMJ.out.len
              go_upto_region 16 with fail
              refine name_world fun W2 hW => ?_
              have BX : W2.heap[wr.heap.size]? = some (.cells #[.int .i64 t.f0, .int .i64 t.f1] 49 (0, 0)) := by rw [hW]; exact blk_new wr _
              have hb1 : Below wr.heap.size wr W2 := by rw [hW]; repeat (first | exact Below.refl _ _ | apply below_alloc | refine below_set ?_ (by simp))
              clear hW
              generalize hX : wr.heap.size = X at BX ⊢
              replace HM := Aside0.mk (Kd.R_below (R_new (ok' := fun q => (q ≤ W1.heap.size ∨ wt.heap.size ≤ q) ∧ q ≠ X) HM.out (X := X) (by omega) (fun q h1 h2 => ⟨h1, by omega⟩)) hb1)
              replace HT := Aside0.mk (Kd.R_below HT.out hb1)
              replace HB := Aside0.mk (bthen HB.out hb1)
              have hwX : wt.heap.size ≤ X := by omega
              have HX := Aside0.mk BX
              have k0' := blk_cell BX 0
              have k1' := blk_cell BX 1
              clear h0 h1 hb1 hX BX
              have HOF := Aside0.mk (rowsOk_fit (own_rows (key := (k : Int)) HA.out))
              have HPS := Aside0.mk (present_small (own_rows (key := (k : Int)) HA.out) (by omega) t)
              have hpl := present_len (own_in (key := (k : Int)) HA.out) t
              have hpl2 := present_len (fun r hr => ⟨(HMJ.out.in_ r hr).1, (HMJ.out.in_ r hr).2.1⟩) t
              go_upto_region 17 with (first
                | (go_at_call 59; ((with_reducible refine (impl_present _ (ownK a (k : Int)) t W2 (HOWN.out.below HB.out) HOF.out (by omega)).mono ?_); rintro e wa ⟨v1, rfl, hr, hb⟩; have HP1 := Aside0.mk (Sl.of_R hr); have HMa := Aside0.mk (Kd.R_below HM.out hb); have HTa := Aside0.mk (Kd.R_below HT.out hb); have HXa := Aside0.mk (blk_below HX.out hb); have HBa := Aside0.mk (bthen HB.out hb); clear hr hb))
                | (go_at_call 72; ((with_reducible refine (impl_aggregate _ (present (ownK a (k : Int)) t) kind wa HP1.out HPS.out (by omega)).mono ?_); rintro e wb ⟨v2, rfl, hr, hb⟩; have HD := Aside0.mk hr; have HBb := Aside0.mk hb; clear hr hb)))
              have HMb := Aside0.mk (Kd.R_below HMa.out HBb.out)
              have HXb := Aside0.mk (blk_below HXa.out HBb.out)
              have kc0 := blk_cell HXb.out 0
              have kc1 := blk_cell HXb.out 1
              have HMF := Aside0.mk (made_fit HMJ.out (by omega) (by omega))
              have HDI := Aside0.mk (due_in HA.out (by omega) (by omega) k1 k3 HMJ.out t)
              have HDE := Aside0.mk (show dueL (ownK a (k : Int)) ms kind t = aggL (present (ownK a (k : Int)) t) kind ++ (present ms t).map negI from rfl)
              have hag : (aggL (present (ownK a (k : Int)) t) kind).length ≤ 1000 := by
                have hp := (present_one (own_in (key := (k : Int)) HA.out) t).2
                rw [agg_key (fun x hx => (hp x hx).1) (by omega) (by omega) k1 k3]
                exact keyL_len1 hp (by omega) k1 k3
              go_wp2_with (go_at_call 59; ((with_reducible refine (impl_present _ ms t wb (Sl.of_R HMb.out) HMF.out (by omega)).mono ?_); rintro e wc ⟨v3, rfl, hr, hb⟩; have HQ := Aside0.mk (show kIt.R 83 wc wa.heap.size (fun q => wb.heap.size ≤ q ∧ q < wc.heap.size) v3 (present ms t) from Kd.R_lower (Kd.R_mono (Kd.R_bound hr) (fun q hq => ⟨hq.2.1, hq.2.2.1⟩)) HBb.out.size); have HDc := Aside0.mk (Kd.R_below (Kd.R_mono (Kd.R_bound HD.out) (ok' := fun q => q < wb.heap.size ∨ wc.heap.size ≤ q) (fun q hq => Or.inl hq.2.2.1)) hb); have HBc := Aside0.mk (bthen HBb.out hb); have hwc := hb.size; obtain ⟨A6, c6, rfl, hc6, hC6⟩ := Sl.of_R HQ.out; have hm6 := Kd.C_max hC6; clear hr hb hC6))
              generalize aggL (present (ownK a (k : Int)) t) kind = ag at *
              generalize present ms t = pm at *
              have hwab := HBb.out.size
              go_loopw [14, 58] (fun d i wr => ∃ (n : Nat), n ≤ pm.length ∧ i = .int .i64 n ∧ Aside0 (kIt.R 83 wr wa.heap.size (fun q => q < wb.heap.size ∨ wc.heap.size ≤ q) d (ag ++ (pm.take n).map negI)) ∧ Aside0 (kIt.R 83 wr wa.heap.size (fun q => wb.heap.size ≤ q ∧ q < wc.heap.size) (.slice A6 pm.length c6) pm) ∧ Aside0 (Below wa.heap.size wa wr) ∧ wc.heap.size ≤ wr.heap.size) (fun _ i _ => pm.length - (intOf i).toNat)
              case atStart => exact ⟨0, Nat.zero_le _, rfl, by simpa using HDc, HQ, HBc, Nat.le_refl _⟩
              case round =>
                clear HDc HQ HBc
                obtain ⟨n, hn, rfl, HDc, HQ, HBc, hwr2⟩ := hrel
                by_cases hlt3 : n < pm.length
                · obtain ⟨ad2, x, e, HX2, i0, i1, i2⟩ := rdIt (Kd.R_reads' HQ.out).2.2 (Below.refl _ _) hlt3
                  cases e
                  have hdl : (ag ++ (pm.take n).map negI).length ≤ 1100 := by rw [List.length_append, List.length_map, List.length_take]; omega
                  have hsn : (pm.take (n + 1)).map negI = (pm.take n).map negI ++ [negI x] := by rw [take_snoc HX2.out, List.map_append]; rfl
                  have HSN2 := Aside0.mk hsn
                  clear hsn
                  go_upto_region 20 with fail
                  refine name_world fun W3 hW => ?_
                  have BY : W3.heap[wr.heap.size]? = some (.cells #[.int .i64 x.f0, .int .i64 x.f1, .int .i64 x.f2] 83 (0, 0)) := by rw [hW]; exact blk_new wr _
                  have hb1 : Below wr.heap.size wr W3 := by rw [hW]; repeat (first | exact Below.refl _ _ | apply below_alloc | refine below_set ?_ (by simp))
                  clear hW
                  generalize hY : wr.heap.size = Y at BY ⊢
                  have HD1 := Aside0.mk (Kd.R_below HDc.out hb1)
                  have HQ1 := Aside0.mk (Kd.R_below HQ.out hb1)
                  have HB1 := Aside0.mk (bthen HBc.out hb1)
                  have hw3 := hb1.size
                  have y0 := blk_cell BY 0
                  have y1 := blk_cell BY 1
                  have y2 := blk_cell BY 2
                  clear i0 i1 i2 hb1 hY BY HDc HQ HBc
                  go_wp2_with (at_builtin; refine appIt (w0 := wa) (base := wa.heap.size) (xs := ag ++ (pm.take n).map negI) (ok := fun q => q < wb.heap.size ∨ wc.heap.size ≤ q) rfl rfl rfl HD1.out (fun q hq => Or.inr (by omega)) HB1.out (by have := HB1.out.size; omega) (by omega) ?_; intro v1 w1 hr1 hb1 hg1 ha1; have HD2 := Aside0.mk hr1; have HG_ := Aside0.mk hg1; replace HB1 := Aside0.mk hb1; clear hr1 hb1 hg1 ha1)
                  go_roundw
                  case rel => exact ⟨n + 1, by omega, by go_num, ⟨by rw [HSN2.out, ← List.append_assoc]; exact HD2.out⟩, ⟨R_side HD1.out HG_.out HQ1.out (fun q h1 h2 => by omega)⟩, HB1, by have := HG_.out.size; omega⟩
                  case measure => simp [intOf]; omega
                · obtain rfl : n = pm.length := by omega
                  rw [List.take_length] at HDc
                  rw [← HDE.out] at HDc
                  have hdl : (dueL (ownK a (k : Int)) ms kind t).length ≤ 1100 := by rw [HDE.out, List.length_append, List.length_map]; omega
                  have HIT := Aside0.mk (fit_its (fun x hx => by have h1 := HDI.out.1 x hx; exact ⟨by omega, h1.2, HDI.out.2 x hx⟩))
                  have HFEW := Aside0.mk (items_few HDI.out.1)
                  generalize hdue : dueL (ownK a (k : Int)) ms kind t = due at *
                  have HDUE := Aside0.mk hdue
                  clear hdue
                  rename World => We
                  have HMe := Aside0.mk (Kd.R_below HMa.out HBc.out)
                  have HTe := Aside0.mk (Kd.R_below HTa.out HBc.out)
                  have HXe := Aside0.mk (blk_below HXa.out HBc.out)
                  have HBe := Aside0.mk (bthen HBa.out HBc.out)
                  have hwe := HBe.out.size
                  go_wp2_with (go_at_call 62; ((with_reducible refine (impl_gathered _ due We (Sl.of_R HDc.out) HIT.out (by omega)).mono ?_); rintro e wg ⟨v4, rfl, hr, hb⟩; have HG := Aside0.mk (show kIt.R 83 wg W1.heap.size (fun q => We.heap.size ≤ q ∧ q < wg.heap.size) v4 (items due) from Kd.R_lower (Kd.R_mono (Kd.R_bound hr) (fun q hq => ⟨hq.2.1, hq.2.2.1⟩)) HBe.out.size); have HMg := Aside0.mk (Kd.R_below (Kd.R_mono (Kd.R_bound HMe.out) (ok' := fun q => ((q ≤ W1.heap.size ∨ wt.heap.size ≤ q) ∧ q ≠ X) ∧ (q < We.heap.size ∨ wg.heap.size ≤ q)) (fun q hq => ⟨hq.1, Or.inl hq.2.2.1⟩)) hb); have HTg := Aside0.mk (Kd.R_below HTe.out hb); have HXg := Aside0.mk (blk_below HXe.out hb); have HBg := Aside0.mk (bthen HBe.out hb); have hwg := hb.size; obtain ⟨A7, c7, rfl, hc7, hC7⟩ := Sl.of_R HG.out; have hm7 := Kd.C_max hC7; clear hr hb hC7))
                  have HSTEP := Aside0.mk (show stepM (ownK a (k : Int)) kind ms t = ms ++ (items due).map (toRw t) by unfold stepM; rw [HDUE.out])
                  generalize items due = gs at *
                  go_loopw [11, 77] (fun m i wr => ∃ (n : Nat), n ≤ gs.length ∧ i = .int .i64 n ∧ Aside0 (kRw.R 65 wr W1.heap.size (fun q => ((q ≤ W1.heap.size ∨ wt.heap.size ≤ q) ∧ q ≠ X) ∧ (q < We.heap.size ∨ wg.heap.size ≤ q)) m (ms ++ (gs.take n).map (toRw t))) ∧ Aside0 (kIt.R 83 wr W1.heap.size (fun q => We.heap.size ≤ q ∧ q < wg.heap.size) (.slice A7 gs.length c7) gs) ∧ Aside0 (kTm.R 49 wr W1.heap.size (fun q => W1.heap.size < q ∧ q < wt.heap.size) (.slice (some ad) ts.length c5) ts) ∧ Aside0 (wr.heap[X]? = some (.cells #[.int .i64 t.f0, .int .i64 t.f1] 49 (0, 0))) ∧ Aside0 (Below W1.heap.size W1 wr) ∧ wg.heap.size ≤ wr.heap.size) (fun _ i _ => gs.length - (intOf i).toNat)
                  case atStart => exact ⟨0, Nat.zero_le _, rfl, by simpa using HMg, HG, HTg, HXg, HBg, Nat.le_refl _⟩
                  case round =>
                    clear HMg HG HTg HXg HBg
                    obtain ⟨n, hn, rfl, HM5, HG5, HT5, HX5, HB5, hw5⟩ := hrel
                    by_cases hlt4 : n < gs.length
                    · obtain ⟨ad3, x, e, HX6, i0, i1, i2⟩ := rdIt (Kd.R_reads' HG5.out).2.2 (Below.refl _ _) hlt4
                      cases e
                      have hfew := HFEW.out
                      have hml : (ms ++ (gs.take n).map (toRw t)).length ≤ 7000 := by rw [List.length_append, List.length_map, List.length_take]; omega
                      have HSN5 := Aside0.mk (show (gs.take (n + 1)).map (toRw t) = (gs.take n).map (toRw t) ++ [toRw t x] by rw [take_snoc HX6.out, List.map_append]; rfl)
                      go_upto_region 25 with fail
                      refine name_world fun W5 hW => ?_
                      have BY : W5.heap[wr.heap.size]? = some (.cells #[.int .i64 x.f0, .int .i64 x.f1, .int .i64 x.f2] 83 (0, 0)) := by rw [hW]; exact blk_new wr _
                      have hb1 : Below wr.heap.size wr W5 := by rw [hW]; repeat (first | exact Below.refl _ _ | apply below_alloc | refine below_set ?_ (by simp))
                      clear hW
                      generalize hY : wr.heap.size = Y at BY ⊢
                      have HM6 := Aside0.mk (Kd.R_below HM5.out hb1)
                      have HG6 := Aside0.mk (Kd.R_below HG5.out hb1)
                      have HT6 := Aside0.mk (Kd.R_below HT5.out hb1)
                      have HX7 := Aside0.mk (blk_below HX5.out hb1)
                      have HB6 := Aside0.mk (bthen HB5.out hb1)
                      have hw6 := hb1.size
                      have hXlt := blk_lt HX5.out
                      have y0 := blk_cell BY 0
                      have y1 := blk_cell BY 1
                      have y2 := blk_cell BY 2
                      have z0 := blk_cell HX7.out 0
                      have z1 := blk_cell HX7.out 1
                      clear i0 i1 i2 hb1 hY BY HM5 HG5 HT5 HX5 HB5
                      go_wp2_with (at_builtin; refine appRw (w0 := W1) (base := W1.heap.size) (xs := ms ++ (gs.take n).map (toRw t)) (ok := fun q => ((q ≤ W1.heap.size ∨ wt.heap.size ≤ q) ∧ q ≠ X) ∧ (q < We.heap.size ∨ wg.heap.size ≤ q)) rfl rfl rfl HM6.out (fun q hq => ⟨⟨Or.inr (by omega), by omega⟩, Or.inr (by omega)⟩) HB6.out (by have := HB6.out.size; omega) (by omega) ?_; intro v1 w1 hr1 hb1 hg1 ha1; have HM7 := Aside0.mk hr1; have HG_ := Aside0.mk hg1; replace HB6 := Aside0.mk hb1; clear hr1 hb1 hg1 ha1)
                      go_roundw
                      case rel => exact ⟨n + 1, by omega, by go_num, ⟨by rw [HSN5.out, ← List.append_assoc]; exact HM7.out⟩, ⟨R_side HM6.out HG_.out HG6.out (fun q h1 h2 => by omega)⟩, ⟨R_side HM6.out HG_.out HT6.out (fun q h1 h2 => by omega)⟩, ⟨blk_app HM6.out HG_.out HX7.out (fun e => e.1.2 rfl)⟩, HB6, by have := HG_.out.size; omega⟩
                      case measure => simp [intOf]; omega
                    · obtain rfl : n = gs.length := by omega
                      rw [List.take_length] at HM5
                      rw [← HSTEP.out] at HM5
                      go_wp2
                      go_roundw
                      case rel => exact ⟨j + 1, by omega, by go_num, ⟨by rw [HSN.out]; exact Kd.R_mono HM5.out (fun q hq => hq.1.1)⟩, HT5, HB5, by have := blk_lt HX5.out; omega⟩
                      case measure => simp [intOf]; omega
            · obtain rfl : j = ts.length := by omega
              rw [List.take_length] at HM
              rw [← HSK.out] at HM
              have hal := HLA.out k (by omega)
              have hsl := (sumKey_ok (key := (k : Int)) HA.out (by omega) (by omega) k1 k3).len
              have HB7 := Aside0.mk (bthen HBW1.out HB.out)
              have HALL1 := Aside0.mk (Kd.R_mono (Kd.R_below HALL0.out HB7.out) (ok' := okT) (fun _ _ => trivial))
              have HB8 := Aside0.mk (bthen HBK.out HB7.out)
              have HAS := Aside0.mk (allTo_succ a kind k)
              go_wp2_with (at_builtin; refine appsRw (w0 := w) (base := w.heap.size) (xs := allTo a kind k) (ys := sumKey a kind (k : Int)) (ok := okT) rfl rfl (Sl.of_R HM.out) HALL1.out (fun _ _ => trivial) HB8.out HB8.out.size (by omega) ?_; intro v1 w1 hr1 hb1 hg1 ha1; have HALL2 := Aside0.mk hr1; have HB9 := Aside0.mk hb1; clear hr1 hb1 hg1 ha1)
              go_roundw
              case rel => exact ⟨k + 1, by omega, by go_num, ⟨by rw [HAS.out]; exact HALL2.out⟩, HB9⟩
              case measure => simp [intOf]; omega
    · obtain rfl : k = 4 := by omega
      have hla := HLA.out 4 (Nat.le_refl _)
      go_wp2_with (go_at_call 46; ((with_reducible refine (impl_batch _ (allTo a kind 4) _ (Sl.of_R HALL.out) HFA.out (by omega)).mono ?_); rintro e w' ⟨u2, rfl, hr, hb⟩; have HF2 := Aside0.mk (Kd.R_lower hr HB.out.size); replace HB := Aside0.mk (bthen HB.out hb); clear hr hb))
      go_ret2
      exact BatchP.mk rfl HF2.out HB.out
end Go.Proofs.YthljcnlmeefcjaaGreat.X

