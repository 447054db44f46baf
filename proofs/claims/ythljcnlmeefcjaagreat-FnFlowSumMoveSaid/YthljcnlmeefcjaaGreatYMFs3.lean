/- The walks of the changes of sums: impl.FlowSum, and the reference's. Conditions: none. -/
import Derived.Test.YthljcnlmeefcjaaGreatYMFs2
namespace Go.Proofs.YthljcnlmeefcjaaGreat.X
open Go.RowKit Go.Proofs.YthljcnlmeefcjaaGreatW.PrintWords
set_option linter.unusedVariables false
set_option linter.unusedSimpArgs false

set_option maxRecDepth 100000 in
set_option maxHeartbeats 2000000 in
theorem impl_FlowSum (v : Value) (l : List Rw) (kind : Int) (w : World) (h : Sl kRw w v l) : Calls Tryz.prog 9 #[v, .int .i64 kind] w (RetR kRw 65 w (flowSum l kind)) := by
  have HS := Aside0.mk h
  cases hs : rowsOk l
  · have HB := Aside0.mk (Below.refl w.heap.size w)
    go_enter Tryz.func9, Tryz.ntmps9
    go_wp2_with (go_at_call 37; ((with_reducible refine (impl_RowsOk _ l _ (HS.out.below HB.out)).mono ?_); rintro e w' ⟨rfl, hb⟩; replace HB := Aside0.mk (bthen HB.out hb); clear hb))
    go_ret
    exact RetR.mk (by rw [flowSum, hs]; exact Kd.R_nil _ _ _ _ _) HB.out
  · by_cases g0 : kind < 1
    · have g0' : decide (kind < 1) = true := decide_eq_true g0
      have HB := Aside0.mk (Below.refl w.heap.size w)
      go_enter Tryz.func9, Tryz.ntmps9
      go_wp2_with (go_at_call 37; ((with_reducible refine (impl_RowsOk _ l _ (HS.out.below HB.out)).mono ?_); rintro e w' ⟨rfl, hb⟩; replace HB := Aside0.mk (bthen HB.out hb); clear hb))
      go_ret
      exact RetR.mk (by rw [flowSum, hs, decide_eq_false (by omega)]; exact Kd.R_nil _ _ _ _ _) HB.out
    · by_cases g1 : kind > 3
      · have g0' : decide (kind < 1) = false := decide_eq_false g0
        have g1' : decide (kind > 3) = true := decide_eq_true g1
        have HB := Aside0.mk (Below.refl w.heap.size w)
        go_enter Tryz.func9, Tryz.ntmps9
        go_wp2_with (go_at_call 37; ((with_reducible refine (impl_RowsOk _ l _ (HS.out.below HB.out)).mono ?_); rintro e w' ⟨rfl, hb⟩; replace HB := Aside0.mk (bthen HB.out hb); clear hb))
        go_ret
        exact RetR.mk (by rw [flowSum, hs, decide_eq_false (show ¬ kind ≤ 3 by omega), Bool.and_false]; exact Kd.R_nil _ _ _ _ _) HB.out
      · obtain ⟨a1, a2⟩ := rowsOk_all hs
        have A2 := Aside0.mk a2
        have k1 : 1 ≤ kind := by omega
        have k3 : kind ≤ 3 := by omega
        clear a2
        have HB := Aside0.mk (Below.refl w.heap.size w)
        go_enter Tryz.func9, Tryz.ntmps9
        go_wp2_with (first | (go_at_call 37; ((with_reducible refine (impl_RowsOk _ l _ (HS.out.below HB.out)).mono ?_); rintro e w' ⟨rfl, hb⟩; replace HB := Aside0.mk (bthen HB.out hb); clear hb)) | (go_at_call 38; ((with_reducible refine (impl_flowSum _ l kind _ (HS.out.below HB.out) A2.out a1 k1 k3).mono ?_); rintro e w' ⟨u2, rfl, hr, hb⟩; have HF2 := Aside0.mk (Kd.R_lower hr HB.out.size); replace HB := Aside0.mk (bthen HB.out hb); clear hr hb)))
        go_ret
        exact RetR.mk (by rw [flowSum, hs, decide_eq_true k1, decide_eq_true k3]; exact HF2.out) HB.out
def lackR' (key : Int) (t : Tm) (l : List Rw) : List It := (l.filter fun r => tLess r.f2 t).map (lackR key)
theorem lackR_snoc {l : List Rw} {k : Nat} {x : Rw} (hx : l[k]? = some x) (key : Int) (t : Tm) : lackR' key t (l.take (k + 1)) = lackR' key t (l.take k) ++ (if tLess x.f2 t = true then [lackR key x] else []) := by
  rw [take_snoc hx]; unfold lackR'; rw [List.filter_append, List.map_append]
  by_cases h : tLess x.f2 t = true <;> simp [h]
theorem lackR_len (key : Int) (t : Tm) (l : List Rw) : (lackR' key t l).length ≤ l.length := by unfold lackR'; rw [List.length_map]; exact List.length_filter_le _ _
def rwK (key : Int) (t : Tm) (x : It) : Rw := ⟨key, x.f1, t, x.f2⟩
theorem ownK_rowsOk {a : List Rw} (h : rowsOk a = true) (key : Int) : rowsOk (ownK a key) = true := by
  obtain ⟨h1, h2⟩ := rowsOk_all h
  unfold rowsOk
  rw [decide_eq_true (show (ownK a key).length ≤ 400 by have := ownK_len a key; omega), Bool.and_true, List.all_eq_true]
  exact own_rows h2
theorem batchAt_own {a : List Rw} (h : rowsOk a = true) (key : Int) {t : Tm} (ht : tOk t = true) : batchAt (ownK a key) t = present (ownK a key) t := by unfold batchAt; rw [ownK_rowsOk h, ht]; rfl
theorem keyL_own_len {a : List Rw} (h : rowsOk a = true) (key kind : Int) (k1 : 1 ≤ kind) (k3 : kind ≤ 3) (t : Tm) : (keyL (present (ownK a key) t) key kind).length ≤ 1000 :=
  keyL_len1 (present_one (own_in (key := key) (rowsOk_all h).2) t).2 (by have := present_len (own_in (key := key) (rowsOk_all h).2) t; omega) k1 k3
set_option maxRecDepth 100000 in
set_option maxHeartbeats 8000000 in
theorem spec_l11Key (v : Value) (a : List Rw) (key kind : Int) (w : World) (h : Sl kRw w v a) (hr0 : rowsOk a = true) (h0 : 0 ≤ key) (h3 : key ≤ 3) (k1 : 1 ≤ kind) (k3 : kind ≤ 3) : Calls Tryz.prog 73 #[v, .int .i64 key, .int .i64 kind] w (RetR kRw 65 w (sumKey a kind key)) := by
  have HS := Aside0.mk h
  obtain ⟨A, c_, rfl, HC, hr⟩ := h
  have hm := Kd.C_max hr
  have HR := Aside0.mk hr
  clear hr
  have HA := Aside0.mk (rowsOk_all hr0).2
  have hl := (rowsOk_all hr0).1
  have HRK := Aside0.mk hr0
  clear hr0
  have HN1 := Aside0.mk (R_none (d := kRw) (e := 65) (base := w.heap.size) (ok := okT) (blk_new w (.cells #[] 65)) (Nat.le_refl _) trivial)
  have HB := Aside0.mk (Below.refl w.heap.size w)
  go_enter Tryz.func73, Tryz.ntmps73
  replace HB := Aside0.mk (below_alloc HB.out (.cells #[] 65))
  go_wp2
  go_loopw [7, 8] (fun o i wr => ∃ (j : Nat), j ≤ a.length ∧ i = .int .i64 j ∧ Aside0 (kRw.R 65 wr w.heap.size okT o (ownK (a.take j) key)) ∧ Aside0 (Below w.heap.size w wr)) (fun _ i _ => a.length - (intOf i).toNat)
  case atStart => exact ⟨0, Nat.zero_le _, rfl, HN1, HB⟩
  case round =>
    clear HB HN1
    obtain ⟨j, hj, rfl, HO, HB⟩ := hrel
    have hol : (ownK (a.take j) key).length ≤ 400 := by have := ownK_len (a.take j) key; rw [List.length_take] at this; omega
    by_cases hlt2 : j < a.length
    · obtain ⟨ad, x, e, HX, g0, g1, g2, g3, g4⟩ := rdRw HR.out HB.out hlt2
      cases e
      have hcs := Aside0.mk (ownK_snoc HX.out key)
      by_cases hd : x.f0 = key
      · have hdb : (x.f0 == key) = true := by simpa using hd
        have HD := Aside0.mk hd
        clear hd
        go_wp2_with (at_builtin; refine appRw (w0 := w) (base := w.heap.size) (xs := ownK (a.take j) key) (ok := okT) rfl rfl rfl HO.out (fun _ _ => trivial) HB.out (by have := HB.out.size; omega) (by omega) ?_; intro v1 w1 hr1 hb1 hg1 ha1; have HO2 := Aside0.mk hr1; have HG_ := Aside0.mk hg1; replace HB := Aside0.mk hb1; clear hr1 hb1 hg1 ha1)
        go_roundw
        case rel => exact ⟨j + 1, by omega, by go_num, ⟨by rw [hcs.out, if_pos HD.out]; exact HO2.out⟩, HB⟩
        case measure => simp [intOf]; omega
      · have hdb : (x.f0 == key) = false := by simpa using hd
        have HD := Aside0.mk hd
        clear hd
        go_wp2
        go_roundw
        case rel => exact ⟨j + 1, by omega, by go_num, ⟨by rw [hcs.out, if_neg HD.out, List.append_nil]; exact HO.out⟩, HB⟩
        case measure => simp [intOf]; omega
    · obtain rfl : j = a.length := by omega
      rw [List.take_length] at HO hol
      have HOWN := Aside0.mk (Sl.of_R HO.out)
      rename World => W1
      have HBW1 := HB
      have hN1 := HB.out.size
      have HM0 := Aside0.mk (R_none (d := kRw) (e := 65) (base := W1.heap.size) (ok := okT) (blk_new W1 (.cells #[] 65)) (Nat.le_refl _) trivial)
      replace HB := Aside0.mk (below_alloc (Below.refl W1.heap.size W1) (.cells #[] 65))
      have hs1 : (W1.alloc (.cells #[] 65)).heap.size = W1.heap.size + 1 := by simp
      have HS1 := Aside0.mk hs1
      clear hs1 HO
      go_upto_block 0 with (go_at_call 98; ((with_reducible refine (spec_FlowTimes _ a key _ (HS.out.below (bthen HBW1.out HB.out))).mono ?_); rintro e wt ⟨vt, rfl, hr, hb⟩; have HT := Aside0.mk (show kTm.R 49 wt W1.heap.size (fun q => W1.heap.size < q ∧ q < wt.heap.size) vt (flowTimes a key) from Kd.R_lower (Kd.R_mono (Kd.R_bound hr) (fun q hq => ⟨by have := hq.2.1; have := HS1.out; omega, hq.2.2.1⟩)) (by have := HS1.out; omega)); have HM := Aside0.mk (Kd.R_below (Kd.R_mono (Kd.R_bound HM0.out) (ok' := fun q => q ≤ W1.heap.size ∨ wt.heap.size ≤ q) (fun q hq => Or.inl (by have := hq.2.2.1; have := HS1.out; omega))) hb); have hsz := hb.size; replace HB := Aside0.mk (bthen HB.out hb); obtain ⟨A5, c5, rfl, hc5, hC5⟩ := Sl.of_R HT.out; have hm5 := Kd.C_max hC5; clear hr hb hC5))
      have HTO := Aside0.mk (flowTimes_ok a key)
      have htl := flowTimes_len' a key
      have HMO := Aside0.mk (sumTo_ok (key := key) (kind := kind) HA.out (by omega) (by omega) k1 k3 HTO.out)
      have HSK := Aside0.mk (sumKey_to a kind key)
      generalize flowTimes a key = ts at *
      have hT2 : W1.heap.size + 1 ≤ wt.heap.size := by have := HS1.out; omega
      clear hsz HM0
      go_wp2
      go_loopw [9, 11] (fun m i wr => ∃ (j : Nat), j ≤ ts.length ∧ i = .int .i64 j ∧ Aside0 (kRw.R 65 wr W1.heap.size (fun q => q ≤ W1.heap.size ∨ wt.heap.size ≤ q) m (sumTo (ownK a key) kind (ts.take j))) ∧ Aside0 (kTm.R 49 wr W1.heap.size (fun q => W1.heap.size < q ∧ q < wt.heap.size) (.slice A5 ts.length c5) ts) ∧ Aside0 (Below W1.heap.size W1 wr) ∧ wt.heap.size ≤ wr.heap.size) (fun _ i _ => ts.length - (intOf i).toNat)
      case atStart => exact ⟨0, Nat.zero_le _, rfl, HM, HT, HB, Nat.le_refl _⟩
      case round =>
        clear HM HT HB
        obtain ⟨j, hj, rfl, HM, HT, HB, hwr⟩ := hrel
        have HMJ := Aside0.mk (HMO.out j hj)
        by_cases hlt2 : j < ts.length
        · obtain ⟨ad, t, e, HTT, g0, g1⟩ := rdTm (Kd.R_reads' HT.out).2.2 (Below.refl _ _) hlt2
          cases e
          have HSN := Aside0.mk (sumTo_snoc (ownK a key) kind HTT.out)
          generalize sumTo (ownK a key) kind (ts.take j) = ms at *
          have htok := HTO.out t (List.mem_of_getElem? HTT.out)
          have hmlen := HMJ.out.len
          go_upto_region 13 with fail
          refine name_world fun W2 hW => ?_
          have BX : W2.heap[wr.heap.size]? = some (.cells #[.int .i64 t.f0, .int .i64 t.f1] 49 (0, 0)) := by rw [hW]; exact blk_new wr _
          have hb1 : Below wr.heap.size wr W2 := by rw [hW]; repeat (first | exact Below.refl _ _ | apply below_alloc | refine below_set ?_ (by simp))
          clear hW
          generalize hX : wr.heap.size = X at BX ⊢
          replace HM := Aside0.mk (Kd.R_below (R_new (ok' := fun q => (q ≤ W1.heap.size ∨ wt.heap.size ≤ q) ∧ q ≠ X) HM.out (X := X) (by omega) (fun q h1 h2 => ⟨h1, by omega⟩)) hb1)
          replace HT := Aside0.mk (Kd.R_below HT.out hb1)
          replace HB := Aside0.mk (bthen HB.out hb1)
          have hwX : wt.heap.size ≤ X := by omega
          have HX := Aside0.mk BX
          have k0' := blk_cell BX 0
          have k1' := blk_cell BX 1
          clear g0 g1 hb1 hX BX
          have HOF := Aside0.mk (batchAt_own HRK.out key htok)
          have HPS := Aside0.mk (present_small (own_rows (key := key) HA.out) (by omega) t)
          have hpl := present_len (own_in (key := key) HA.out) t
          go_upto_block 0 with (first
            | (go_at_call 100; ((with_reducible refine (spec_BatchAt _ (ownK a key) t W2 (HOWN.out.below HB.out)).mono ?_); rintro e wa ⟨v1, rfl, hr, hb⟩; rw [HOF.out] at hr; have HP1 := Aside0.mk (Sl.of_R hr); have HMa := Aside0.mk (Kd.R_below HM.out hb); have HTa := Aside0.mk (Kd.R_below HT.out hb); have HXa := Aside0.mk (blk_below HX.out hb); have HBa := Aside0.mk (bthen HB.out hb); clear hr hb))
            | (go_at_call 99; ((with_reducible refine (spec_l3Key _ (present (ownK a key) t) key kind wa HP1.out HPS.out (by omega) k1 k3).mono ?_); rintro e wb ⟨v2, rfl, hr, hb⟩; have HD := Aside0.mk (Kd.R_mono (Kd.R_bound hr) (ok' := fun q => wa.heap.size ≤ q) (fun q hq => hq.2.1)); have HMb := Aside0.mk (Kd.R_below (Kd.R_mono (Kd.R_bound HMa.out) (ok' := fun q => ((q ≤ W1.heap.size ∨ wt.heap.size ≤ q) ∧ q ≠ X) ∧ q < wa.heap.size) (fun q hq => ⟨hq.1, hq.2.2.1⟩)) hb); have HTb := Aside0.mk (Kd.R_below HTa.out hb); have HXb := Aside0.mk (blk_below HXa.out hb); have HBb := Aside0.mk hb; clear hr hb)))
          have hwa := HBa.out.size
          have hwxa : X < wa.heap.size := blk_lt HXa.out
          have hwta : wt.heap.size ≤ wa.heap.size := by omega
          have hkl := keyL_own_len HRK.out key kind k1 k3 t
          have HLE := Aside0.mk (lack_eq (kind := kind) HA.out h0 h3 k1 k3 HMJ.out htok)
          have HLU := Aside0.mk (show lackL (ownK a key) ms key kind t = keyL (present (ownK a key) t) key kind ++ lackR' key t ms from rfl)
          have HDI := Aside0.mk (due_in HA.out h0 h3 k1 k3 HMJ.out t)
          have HDU := Aside0.mk (show stepM (ownK a key) kind ms t = ms ++ (items (dueL (ownK a key) ms kind t)).map (toRw t) from rfl)
          generalize keyL (present (ownK a key) t) key kind = kl at *
          generalize dueL (ownK a key) ms kind t = due at *
          obtain ⟨A6, c6, rfl, hc6, hC6⟩ := Sl.of_R HMb.out
          have hm6 := Kd.C_max hC6
          clear hC6 HMa HTa HXa k0' k1'
          go_wp2
          go_loopw [13, 14] (fun d i wr => ∃ (n : Nat), n ≤ ms.length ∧ i = .int .i64 n ∧ Aside0 (kIt.R 83 wr wa.heap.size (fun q => wa.heap.size ≤ q) d (kl ++ lackR' key t (ms.take n))) ∧ Aside0 (kRw.R 65 wr W1.heap.size (fun q => ((q ≤ W1.heap.size ∨ wt.heap.size ≤ q) ∧ q ≠ X) ∧ q < wa.heap.size) (.slice A6 ms.length c6) ms) ∧ Aside0 (kTm.R 49 wr W1.heap.size (fun q => W1.heap.size < q ∧ q < wt.heap.size) (.slice (some ad) ts.length c5) ts) ∧ Aside0 (wr.heap[X]? = some (.cells #[.int .i64 t.f0, .int .i64 t.f1] 49 (0, 0))) ∧ Aside0 (Below wa.heap.size wa wr)) (fun _ i _ => ms.length - (intOf i).toNat)
          case atStart => exact ⟨0, Nat.zero_le _, rfl, by simpa [lackR'] using HD, HMb, HTb, HXb, HBb⟩
          case round =>
            clear HD HMb HTb HXb HBb
            obtain ⟨n, hn, rfl, HD, HMb, HTb, HXb, HBb⟩ := hrel
            by_cases hlt3 : n < ms.length
            · obtain ⟨ad2, x, e, HX2, i0, i1, i2, i3, i4⟩ := rdRw (Kd.R_reads' HMb.out).2.2 (Below.refl _ _) hlt3
              cases e
              have hdl : (kl ++ lackR' key t (ms.take n)).length ≤ 8000 := by have := lackR_len key t (ms.take n); rw [List.length_append]; rw [List.length_take] at this; omega
              have HSN2 := Aside0.mk (lackR_snoc HX2.out key t)
              have hwb := HBb.out.size
              have q0 := blk_cell HXb.out 0
              have q1 := blk_cell HXb.out 1
              have al : (ad2.add (n * 5)).block < wa.heap.size := by
                obtain ⟨g, cap, e, hg1, hg2⟩ := formR (Kd.R_mono HMb.out (ok' := okT) (fun _ _ => trivial)) rfl (by omega)
                cases e
                have := HMb.out.1 g rfl
                rw [add_blk]; exact this.2
              have p0 := fun u => Ext.cell i2 u
              have p1 := fun u => Ext.cell i3 u
              have p2 := fun u => Ext.cell q0 u
              have p3 := fun u => Ext.cell q1 u
              have TL : ∀ W, Calls Tryz.prog 74 #[.agg #[.int .i64 x.f2.f0, .int .i64 x.f2.f1], .agg #[.int .i64 t.f0, .int .i64 t.f1]] W (RetV W (.bool (tLess x.f2 t))) := fun W => spec_TimeLess x.f2.f0 x.f2.f1 t.f0 t.f1 W
              go_wp2
              refine wp_region_ext (by kernel_rfl) (by kernel_rfl) ?_
              repeat (any_goals (first | go_big_quiet_step ((go_at_call 74; exact Calls.extV (TL _))) | quiet_step ((go_at_call 74; exact Calls.extV (TL _))) | (refine wpQuiet_step (fun K hK => ?_); go_simp; split <;> (refine hK _ ?_; clear hK K))))
              all_goals (refine wpQuiet_nil ?_; intro u)
              have HD1 := Aside0.mk (Kd.R_below HD.out u.bel)
              have HM1 := Aside0.mk (Kd.R_below HMb.out u.bel)
              have HT1 := Aside0.mk (Kd.R_below HTb.out u.bel)
              have HX1 := Aside0.mk (blk_below HXb.out u.bel)
              have HB1 := Aside0.mk (bthen HBb.out u.bel)
              replace i1 := pw_cell_below u.bel i1
              replace i4 := pw_cell_below u.bel i4
              clear p0 p1 p2 p3 TL q0 q1 i0 i2 i3 HD HMb HTb HXb HBb hwb
              generalize u.w' = W at *
              have hwb := HB1.out.size
              cases htl2 : tLess x.f2 t
              · have HTL := Aside0.mk htl2
                clear htl2
                go_wp2
                go_roundw
                case rel => exact ⟨n + 1, by omega, by go_num, ⟨by rw [HSN2.out, HTL.out]; simpa using HD1.out⟩, HM1, HT1, HX1, HB1⟩
                case measure => simp [intOf]; omega
              · have HTL := Aside0.mk htl2
                clear htl2
                go_wp2
                have HOd := Aside0.mk (R_drew HD1.out)
                go_region_held3 (fun w' => w'.cell? ⟨(ad2.add (n * 5)).block, (ad2.add (n * 5)).off + 1, none⟩ = some (.int .i64 x.f1) ∧ w'.cell? ⟨(ad2.add (n * 5)).block, (ad2.add (n * 5)).off + 4, none⟩ = some (.int .i64 x.f3)) (first | exact ⟨i1, i4⟩ | exact HM | exact ⟨pw_cell_below (by repeat (first | exact Below.refl _ _ | apply below_alloc | apply below_drew | assumption)) i1, pw_cell_below (by repeat (first | exact Below.refl _ _ | apply below_alloc | apply below_drew | assumption)) i4⟩)
                  (first
                   | (refine stepIt (W := W.drew) (base := wa.heap.size) (xs := kl ++ lackR' key t (ms.take n)) (ok := fun q => wa.heap.size ≤ q) rfl rfl rfl HOd.out (fun q hq => by have : W.drew.heap.size = W.heap.size := rfl; first | trivial | omega | ((try dsimp only); omega)) (by show _ ≤ W.heap.size; omega) (by omega) ?_; intro v1 w1 hr1 hb1 hg1; have HO4 := Aside0.mk hr1; have HB4 := Aside0.mk (below_more (below_drew HB1.out) hb1); have HG4 := Aside0.mk hg1; have HM : w1.cell? ⟨(ad2.add (n * 5)).block, (ad2.add (n * 5)).off + 1, none⟩ = some (.int .i64 x.f1) ∧ w1.cell? ⟨(ad2.add (n * 5)).block, (ad2.add (n * 5)).off + 4, none⟩ = some (.int .i64 x.f3) := ⟨cell_app HOd.out hg1 i1 (by first | exact Or.inl (by assumption) | exact Or.inr (fun e => e rfl) | exact Or.inr (fun e => e.1 rfl) | exact Or.inr (fun e => e.2 rfl) | exact Or.inl (Nat.lt_of_lt_of_le (by assumption) (by omega)) | exact Or.inr (by intro e; (try dsimp only at e); omega)), cell_app HOd.out hg1 i4 (by first | exact Or.inl (by assumption) | exact Or.inr (fun e => e rfl) | exact Or.inr (fun e => e.1 rfl) | exact Or.inr (fun e => e.2 rfl) | exact Or.inl (Nat.lt_of_lt_of_le (by assumption) (by omega)) | exact Or.inr (by intro e; (try dsimp only at e); omega))⟩; clear hr1 hb1 hg1))
                go_wp2
                go_roundw
                case rel => exact ⟨n + 1, by omega, by go_num, ⟨by have h4 := HO4.out; rw [wrapI] at h4; rw [HSN2.out, if_pos HTL.out, ← List.append_assoc]; exact h4⟩, ⟨R_side (R_drew HD1.out) HG4.out (R_drew HM1.out) (fun q h1 h2 => by omega)⟩, ⟨R_side (R_drew HD1.out) HG4.out (R_drew HT1.out) (fun q h1 h2 => by omega)⟩, ⟨blk_app (R_drew HD1.out) HG4.out (show W.drew.heap[X]? = _ from HX1.out) (by omega)⟩, HB4⟩
                case measure => simp [intOf]; omega
            · obtain rfl : n = ms.length := by omega
              rw [List.take_length] at HD
              rw [← HLU.out] at HD
              have hdl : (lackL (ownK a key) ms key kind t).length ≤ 8000 := by rw [HLU.out, List.length_append]; have := lackR_len key t ms; omega
              have HFEW := Aside0.mk (items_few HDI.out.1)
              have HOK := Aside0.mk HDI.out.1.items
              rename World => We
              have HMe := Aside0.mk (Kd.R_mono HMb.out (ok' := fun q => (q ≤ W1.heap.size ∨ wt.heap.size ≤ q) ∧ q ≠ X) (fun q hq => hq.1))
              have HTe := HTb
              have HXe := HXb
              have HBe := Aside0.mk (bthen HBa.out HBb.out)
              have hwe := HBe.out.size
              have hwe2 := HBb.out.size
              clear HMb HTb HXb
              go_upto_block 0 with (go_at_call 101; ((with_reducible refine (spec_l2Items _ (lackL (ownK a key) ms key kind t) We (Sl.of_R HD.out) (by omega)).mono ?_); rintro e wg ⟨v4, rfl, hr, hb⟩; rw [HLE.out] at hr; have HG := Aside0.mk (show kIt.R 83 wg W1.heap.size (fun q => We.heap.size ≤ q ∧ q < wg.heap.size) v4 (items due) from Kd.R_lower (Kd.R_mono (Kd.R_bound hr) (fun q hq => ⟨hq.2.1, hq.2.2.1⟩)) HBe.out.size); have HMg := Aside0.mk (Kd.R_below (Kd.R_mono (Kd.R_bound HMe.out) (ok' := fun q => ((q ≤ W1.heap.size ∨ wt.heap.size ≤ q) ∧ q ≠ X) ∧ (q < We.heap.size ∨ wg.heap.size ≤ q)) (fun q hq => ⟨hq.1, Or.inl hq.2.2.1⟩)) hb); have HTg := Aside0.mk (Kd.R_below HTe.out hb); have HXg := Aside0.mk (blk_below HXe.out hb); have HBg := Aside0.mk (bthen HBe.out hb); have hwg := hb.size; obtain ⟨A7, c7, rfl, hc7, hC7⟩ := Sl.of_R HG.out; have hm7 := Kd.C_max hC7; clear hr hb hC7))
              have HMAP := Aside0.mk (map_toRw HOK.out t)
              generalize items due = gs at *
              go_wp2
              go_loopw [9, 15] (fun m i wr => ∃ (n : Nat), n ≤ gs.length ∧ i = .int .i64 n ∧ Aside0 (kRw.R 65 wr W1.heap.size (fun q => ((q ≤ W1.heap.size ∨ wt.heap.size ≤ q) ∧ q ≠ X) ∧ (q < We.heap.size ∨ wg.heap.size ≤ q)) m (ms ++ (gs.take n).map (rwK key t))) ∧ Aside0 (kIt.R 83 wr W1.heap.size (fun q => We.heap.size ≤ q ∧ q < wg.heap.size) (.slice A7 gs.length c7) gs) ∧ Aside0 (kTm.R 49 wr W1.heap.size (fun q => W1.heap.size < q ∧ q < wt.heap.size) (.slice (some ad) ts.length c5) ts) ∧ Aside0 (wr.heap[X]? = some (.cells #[.int .i64 t.f0, .int .i64 t.f1] 49 (0, 0))) ∧ Aside0 (Below W1.heap.size W1 wr) ∧ wg.heap.size ≤ wr.heap.size) (fun _ i _ => gs.length - (intOf i).toNat)
              case atStart => exact ⟨0, Nat.zero_le _, rfl, by simpa using HMg, HG, HTg, HXg, HBg, Nat.le_refl _⟩
              case round =>
                clear HMg HG HTg HXg HBg
                obtain ⟨n, hn, rfl, HM5, HG5, HT5, HX5, HB5, hw5⟩ := hrel
                by_cases hlt4 : n < gs.length
                · obtain ⟨ad3, x, e, HX6, i0, i1, i2⟩ := rdIt (Kd.R_reads' HG5.out).2.2 (Below.refl _ _) hlt4
                  cases e
                  have hfew := HFEW.out
                  have hml : (ms ++ (gs.take n).map (rwK key t)).length ≤ 7000 := by rw [List.length_append, List.length_map, List.length_take]; omega
                  have HSN5 := Aside0.mk (show (gs.take (n + 1)).map (rwK key t) = (gs.take n).map (rwK key t) ++ [rwK key t x] by rw [take_snoc HX6.out, List.map_append]; rfl)
                  have al : We.heap.size ≤ (ad3.add (n * 3)).block ∧ (ad3.add (n * 3)).block < wg.heap.size := by
                    obtain ⟨g, cap, e, hg1, hg2⟩ := formR (Kd.R_mono HG5.out (ok' := okT) (fun _ _ => trivial)) rfl (by omega)
                    cases e
                    have := HG5.out.1 g rfl
                    rw [add_blk]; exact this
                  obtain ⟨al1, al2⟩ := al
                  have b0 := blk_cell HX5.out 0
                  have b1 := blk_cell HX5.out 1
                  rename World => W
                  go_wp2
                  have HOd := Aside0.mk (R_drew HM5.out)
                  go_region_held3 (fun w' => w'.cell? ⟨(ad3.add (n * 3)).block, (ad3.add (n * 3)).off + 1, none⟩ = some (.int .i64 x.f1) ∧ w'.cell? ⟨(ad3.add (n * 3)).block, (ad3.add (n * 3)).off + 2, none⟩ = some (.int .i64 x.f2) ∧ w'.cell? ⟨X, 0, none⟩ = some (.int .i64 t.f0) ∧ w'.cell? ⟨X, 1, none⟩ = some (.int .i64 t.f1)) (first | exact ⟨i1, i2, b0, b1⟩ | exact HM | exact ⟨pw_cell_below (by repeat (first | exact Below.refl _ _ | apply below_alloc | apply below_drew | assumption)) i1, pw_cell_below (by repeat (first | exact Below.refl _ _ | apply below_alloc | apply below_drew | assumption)) i2, pw_cell_below (by repeat (first | exact Below.refl _ _ | apply below_alloc | apply below_drew | assumption)) b0, pw_cell_below (by repeat (first | exact Below.refl _ _ | apply below_alloc | apply below_drew | assumption)) b1⟩)
                    (first
                     | (refine stepRw (W := W.drew) (base := W1.heap.size) (xs := ms ++ (gs.take n).map (rwK key t)) (ok := fun q => ((q ≤ W1.heap.size ∨ wt.heap.size ≤ q) ∧ q ≠ X) ∧ (q < We.heap.size ∨ wg.heap.size ≤ q)) rfl rfl rfl HOd.out (fun q hq => by have : W.drew.heap.size = W.heap.size := rfl; first | trivial | omega | ((try dsimp only); omega)) (by show _ ≤ W.heap.size; omega) (by omega) ?_; intro v1 w1 hr1 hb1 hg1; have HO4 := Aside0.mk hr1; have HB4 := Aside0.mk (below_more (below_drew HB5.out) hb1); have HG4 := Aside0.mk hg1; have HM : w1.cell? ⟨(ad3.add (n * 3)).block, (ad3.add (n * 3)).off + 1, none⟩ = some (.int .i64 x.f1) ∧ w1.cell? ⟨(ad3.add (n * 3)).block, (ad3.add (n * 3)).off + 2, none⟩ = some (.int .i64 x.f2) ∧ w1.cell? ⟨X, 0, none⟩ = some (.int .i64 t.f0) ∧ w1.cell? ⟨X, 1, none⟩ = some (.int .i64 t.f1) := ⟨cell_app HOd.out hg1 i1 (by first | exact Or.inl (by assumption) | exact Or.inr (fun e => e rfl) | exact Or.inr (fun e => e.1 rfl) | exact Or.inr (fun e => e.2 rfl) | exact Or.inl (Nat.lt_of_lt_of_le (by assumption) (by omega)) | exact Or.inr (by intro e; (try dsimp only at e); omega)), cell_app HOd.out hg1 i2 (by first | exact Or.inl (by assumption) | exact Or.inr (fun e => e rfl) | exact Or.inr (fun e => e.1 rfl) | exact Or.inr (fun e => e.2 rfl) | exact Or.inl (Nat.lt_of_lt_of_le (by assumption) (by omega)) | exact Or.inr (by intro e; (try dsimp only at e); omega)), cell_app HOd.out hg1 b0 (by first | exact Or.inl (by assumption) | exact Or.inr (fun e => e rfl) | exact Or.inr (fun e => e.1 rfl) | exact Or.inr (fun e => e.2 rfl) | exact Or.inl (Nat.lt_of_lt_of_le (by assumption) (by omega)) | exact Or.inr (by intro e; (try dsimp only at e); omega)), cell_app HOd.out hg1 b1 (by first | exact Or.inl (by assumption) | exact Or.inr (fun e => e rfl) | exact Or.inr (fun e => e.1 rfl) | exact Or.inr (fun e => e.2 rfl) | exact Or.inl (Nat.lt_of_lt_of_le (by assumption) (by omega)) | exact Or.inr (by intro e; (try dsimp only at e); omega))⟩; clear hr1 hb1 hg1))
                  go_wp2
                  go_roundw
                  case rel => exact ⟨n + 1, by omega, by go_num, ⟨by rw [HSN5.out, ← List.append_assoc]; exact HO4.out⟩, ⟨R_side (R_drew HM5.out) HG4.out (R_drew HG5.out) (fun q h1 h2 => by omega)⟩, ⟨R_side (R_drew HM5.out) HG4.out (R_drew HT5.out) (fun q h1 h2 => by omega)⟩, ⟨blk_app (R_drew HM5.out) HG4.out (show W.drew.heap[X]? = _ from HX5.out) (fun e => e.1.2 rfl)⟩, HB4, by have h7 := HG4.out.size; have h8 : W.drew.heap.size = W.heap.size := rfl; omega⟩
                  case measure => simp [intOf]; omega
                · obtain rfl : n = gs.length := by omega
                  rw [List.take_length] at HM5
                  have HE5 := Aside0.mk (show stepM (ownK a key) kind ms t = ms ++ gs.map (rwK key t) by rw [HDU.out, HMAP.out]; rfl)
                  rw [← HE5.out] at HM5
                  go_wp2
                  go_roundw
                  case rel => exact ⟨j + 1, by omega, by go_num, ⟨by rw [HSN.out]; exact Kd.R_mono HM5.out (fun q hq => hq.1.1)⟩, HT5, HB5, by have := blk_lt HX5.out; omega⟩
                  case measure => simp [intOf]; omega
        · obtain rfl : j = ts.length := by omega
          rw [List.take_length] at HM
          rw [← HSK.out] at HM
          go_wp2
          go_ret
          exact RetR.mk (Kd.R_mono (Kd.R_lower HM.out hN1) (fun _ _ => trivial)) (bthen HBW1.out HB.out)
set_option maxRecDepth 100000 in
set_option maxHeartbeats 4000000 in
theorem spec_l11Sum (v : Value) (a : List Rw) (kind : Int) (w : World) (h : Sl kRw w v a) (hr0 : rowsOk a = true) (k1 : 1 ≤ kind) (k3 : kind ≤ 3) : Calls Tryz.prog 41 #[v, .int .i64 kind] w (RetR kRw 65 w (sum (allSum a kind))) := by
  have HS := Aside0.mk h
  have HLA := Aside0.mk (allTo_len (kind := kind) (rowsOk_all hr0).2 k1 k3)
  have HSK := Aside0.mk (fun k : Nat => fun hk : k < 4 => (sumKey_ok (a := a) (key := (k : Int)) (kind := kind) (rowsOk_all hr0).2 (by omega) (by omega) k1 k3).len)
  have HN := Aside0.mk (R_none (d := kRw) (e := 65) (base := w.heap.size) (ok := okT) (blk_new w (.cells #[] 65)) (Nat.le_refl _) trivial)
  have HB := Aside0.mk (Below.refl w.heap.size w)
  go_enter Tryz.func41, Tryz.ntmps41
  replace HB := Aside0.mk (below_alloc HB.out (.cells #[] 65))
  go_wp2
  go_loopw [5, 6] (fun o i wr => ∃ (k : Nat), k ≤ 4 ∧ i = .int .i64 k ∧ Aside0 (kRw.R 65 wr w.heap.size okT o (allTo a kind k)) ∧ Aside0 (Below w.heap.size w wr)) (fun _ i _ => 4 - (intOf i).toNat)
  case atStart => exact ⟨0, Nat.zero_le _, rfl, HN, HB⟩
  case round =>
    clear HB HN
    obtain ⟨k, hk, rfl, HO, HB⟩ := hrel
    by_cases hlt : k < 4
    · have hlt' : (k : Int) < 4 := by omega
      have hal := HLA.out k (by omega)
      have hsl := HSK.out k hlt
      have HAS := Aside0.mk (allTo_succ a kind k)
      go_wp2_with (first
        | (go_at_call 73; ((with_reducible refine (spec_l11Key _ a (k : Int) kind _ (HS.out.below HB.out) hr0 (by omega) (by omega) k1 k3).mono ?_); rintro e w' ⟨u, rfl, hr, hb⟩; have HU := Aside0.mk (Sl.of_R hr); replace HO := Aside0.mk (Kd.R_below HO.out hb); replace HB := Aside0.mk (bthen HB.out hb); clear hr hb))
        | (at_builtin; refine appsRw (w0 := w) (base := w.heap.size) (xs := allTo a kind k) (ys := sumKey a kind (k : Int)) (ok := okT) rfl rfl (HU.out) HO.out (fun _ _ => trivial) HB.out HB.out.size (by first | omega | (simp; omega)) ?_; intro v2 w' hr1 hb1 hg1 ha1; have HO2 := Aside0.mk hr1; replace HB := Aside0.mk hb1; clear hr1 hb1 hg1 ha1))
      go_roundw
      case rel => exact ⟨k + 1, by omega, by go_num, ⟨by rw [HAS.out]; exact HO2.out⟩, HB⟩
      case measure => simp [intOf]; omega
    · obtain rfl : k = 4 := by omega
      have hal := HLA.out 4 (by omega)
      go_wp2_with (go_at_call 65; ((with_reducible refine (spec_l2Sum _ (allTo a kind 4) _ (Sl.of_R HO.out) (by omega)).mono ?_); rintro e w' ⟨u, rfl, hr, hb⟩; have HF := Aside0.mk (Kd.R_lower hr HB.out.size); replace HB := Aside0.mk (bthen HB.out hb); clear hr hb))
      go_ret
      exact RetR.mk HF.out HB.out
set_option maxRecDepth 100000 in
set_option maxHeartbeats 2000000 in
theorem spec_FlowSum (v : Value) (l : List Rw) (kind : Int) (w : World) (h : Sl kRw w v l) : Calls Tryz.prog 11 #[v, .int .i64 kind] w fun e w' => ∃ u, e = .returned u ∧ Sl kRw w' u (flowSum l kind) ∧ Below w.heap.size w w' := by
  have HS := Aside0.mk h
  cases hs : rowsOk l
  · have HB := Aside0.mk (Below.refl w.heap.size w)
    go_enter Tryz.func11, Tryz.ntmps11
    go_wp2_with (go_at_call 12; ((with_reducible refine (spec_RowsOk _ l _ (HS.out.below HB.out)).mono ?_); rintro e wb ⟨rfl, hb⟩; replace HB := Aside0.mk (bthen HB.out hb); clear hb))
    go_ret
    exact ⟨_, rfl, by rw [flowSum, hs]; exact Sl.of_R (R_none (e := 65) (ok := okT) (blk_new wb _) (Nat.le_refl _) trivial), below_alloc HB.out _⟩
  · cases hh : (decide (1 ≤ kind) && decide (kind ≤ 3))
    · have HB := Aside0.mk (Below.refl w.heap.size w)
      go_enter Tryz.func11, Tryz.ntmps11
      go_wp2_with (first | (go_at_call 12; ((with_reducible refine (spec_RowsOk _ l _ (HS.out.below HB.out)).mono ?_); rintro e wb ⟨rfl, hb⟩; replace HB := Aside0.mk (bthen HB.out hb); clear hb)) | (go_at_call 39; ((with_reducible refine (spec_l6In _ _ _ _).mono ?_); rintro e w' ⟨rfl, rfl⟩)))
      go_ret
      exact ⟨_, rfl, by rw [flowSum, hs, Bool.true_and, hh]; exact Sl.of_R (R_none (e := 65) (ok := okT) (blk_new wb _) (Nat.le_refl _) trivial), below_alloc HB.out _⟩
    · have hh2 := hh
      simp only [Bool.and_eq_true, decide_eq_true_eq] at hh2
      obtain ⟨g0, g1⟩ := hh2
      have HH := Aside0.mk hh
      have HB := Aside0.mk (Below.refl w.heap.size w)
      go_enter Tryz.func11, Tryz.ntmps11
      go_wp2_with (first
        | (go_at_call 12; ((with_reducible refine (spec_RowsOk _ l _ (HS.out.below HB.out)).mono ?_); rintro e w' ⟨rfl, hb⟩; replace HB := Aside0.mk (bthen HB.out hb); clear hb)) | (go_at_call 39; ((with_reducible refine (spec_l6In _ _ _ _).mono ?_); rintro e w' ⟨rfl, rfl⟩)) | (go_at_call 41; ((with_reducible refine (spec_l11Sum _ l kind _ (HS.out.below HB.out) hs g0 g1).mono ?_); rintro e w' ⟨u, rfl, hr, hb⟩; have HF := Aside0.mk (Kd.R_lower hr HB.out.size); replace HB := Aside0.mk (bthen HB.out hb); clear hr hb))
        | (go_at_call 40; ((with_reducible refine (spec_l2Fit _ (sum (allSum l kind)) _ (Sl.of_R HF.out)).mono ?_); rintro e w' ⟨u2, rfl, hr, hb⟩; have HF2 := Aside0.mk hr; replace HB := Aside0.mk (bthen HB.out hb); clear hr hb)))
      go_ret
      exact ⟨_, rfl, by rw [flowSum, hs, Bool.true_and, HH.out]; exact HF2.out, HB.out⟩
end Go.Proofs.YthljcnlmeefcjaaGreat.X

