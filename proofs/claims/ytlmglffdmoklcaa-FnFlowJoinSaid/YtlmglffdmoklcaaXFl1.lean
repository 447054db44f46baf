/- The walks of the changes that are mapped or filtered. Conditions: none. -/
import Derived.Test.YtlmglffdmoklcaaXBt1
namespace Go.Proofs.Ytlmglffdmoklcaa.X
open Go.RowKit Go.Proofs.YtlmglffdmoklcaaW.PrintWords
set_option linter.unusedVariables false
set_option linter.unusedSimpArgs false

def eachR (how : Int) (r : Rw) : List Rw := match eachKV r.f0 r.f1 how with | some (a, b) => [⟨a, b, r.f2, r.f3⟩] | none => []
theorem eachR_3 {r : Rw} {how : Int} (h0 : 1 ≤ how) (h1 : how ≤ 7) : eachR how r = if (each3 r.f0 r.f1 how).2.2 = true then [⟨(each3 r.f0 r.f1 how).1, (each3 r.f0 r.f1 how).2.1, r.f2, r.f3⟩] else [] := by
  unfold eachR; rw [each3_kv h0 h1]
  cases (each3 r.f0 r.f1 how).2.2 <;> simp
theorem eachR_len (how : Int) (l : List Rw) : (l.flatMap (eachR how)).length ≤ l.length := by
  have := len_flatMap (c := 1) (s := l) (g := eachR how) (fun r _ => by unfold eachR; cases eachKV r.f0 r.f1 how with | none => simp | some p => obtain ⟨a, b⟩ := p; simp)
  omega
theorem eachR_take (how : Int) (l : List Rw) (k : Nat) : ((l.take k).flatMap (eachR how)).length ≤ k := Nat.le_trans (eachR_len how _) (by rw [List.length_take]; omega)
/-- a mapped row is a row -/
theorem eachR_ok {how : Int} {l : List Rw} (h : ∀ r ∈ l, rowOk r = true) : ∀ r ∈ l.flatMap (eachR how), rowOk r = true := fun y hy => by
  obtain ⟨r, hr, hy⟩ := List.mem_flatMap.1 hy
  have hk := rowOk_in (h r hr)
  unfold eachR at hy
  cases he : eachKV r.f0 r.f1 how with
  | none => rw [he] at hy; cases hy
  | some p =>
    obtain ⟨a, b⟩ := p
    rw [he] at hy
    rw [List.mem_singleton.1 hy]
    have := eachKV_ok hk.1.1 hk.1.2 hk.2.1.1 hk.2.1.2 he
    simp only [rowOk, tOk, Bool.and_eq_true, decide_eq_true_eq]; omega
def flowEach (l : List Rw) (how : Int) : List Rw := if rowsOk l && decide (1 ≤ how) && decide (how ≤ 7) then fit (sum (l.flatMap (eachR how))) else []
set_option maxRecDepth 100000 in
set_option maxHeartbeats 4000000 in
theorem impl_flowEach (v : Value) (l : List Rw) (how : Int) (w : World) (h : Sl kRw w v l) (hall0 : ∀ r ∈ l, rowOk r = true) (hl : l.length ≤ 1000) (g0 : 1 ≤ how) (g1 : how ≤ 7) : Calls Try.prog 87 #[v, .int .i64 how] w (BatchP w (sum (l.flatMap (eachR how)))) := by
  obtain ⟨A, c_, rfl, HC, hr⟩ := h
  have hm := Kd.C_max hr
  have HR := Aside0.mk hr
  clear hr
  have hall := Aside0.mk hall0
  have hfit := Aside0.mk (rowsOk_fit (eachR_ok (how := how) hall0))
  clear hall0
  have HB := Aside0.mk (Below.refl w.heap.size w)
  go_enter Try.func87, Try.ntmps87
  go_wp2
  go_loopw [6, 15] (fun o i wr => ∃ (k : Nat), k ≤ l.length ∧ i = .int .i64 k ∧ Aside0 (kRw.R 69 wr w.heap.size okT o ((l.take k).flatMap (eachR how))) ∧ Aside0 (Below w.heap.size w wr)) (fun _ i _ => l.length - (intOf i).toNat)
  case atStart => exact ⟨0, Nat.zero_le _, rfl, ⟨R_none (blk_new w _) (Nat.le_refl _) trivial⟩, ⟨below_alloc HB.out _⟩⟩
  case round =>
    clear HB
    obtain ⟨k, hk, rfl, HO, HB⟩ := hrel
    by_cases hlt : k < l.length
    · obtain ⟨ad, x, e, HX, h0, h1, h2, h3, h4⟩ := rdRw HR.out HB.out hlt
      cases e
      have hws := HB.out.size
      have hpl := eachR_take how l k
      have hx := rowOk_in (hall.out x (List.mem_of_getElem? HX.out))
      cases hkp : (each3 x.f0 x.f1 how).2.2
      · have HK := Aside0.mk hkp
        go_wp2_with (go_at_call 90; ((with_reducible refine (impl_each x.f0 x.f1 how hx.1.1 hx.1.2 hx.2.1.1 hx.2.1.2 g0 g1 _).mono ?_); rintro e w' ⟨rfl, rfl⟩))
        go_roundw
        case rel => exact ⟨k + 1, by omega, by go_num, ⟨by rw [fm_snoc HX.out, eachR_3 g0 g1, HK.out]; simpa using Kd.R_alloc HO.out _⟩, ⟨below_alloc HB.out _⟩⟩
        case measure => simp [intOf]; omega
      · have HK := Aside0.mk hkp
        go_upto_region 7 with (go_at_call 90; ((with_reducible refine (impl_each x.f0 x.f1 how hx.1.1 hx.1.2 hx.2.1.1 hx.2.1.2 g0 g1 _).mono ?_); rintro e w' ⟨rfl, rfl⟩))
        refine name_world fun W hW => ?_
        have B0 : W.heap[wr.heap.size]? = some (.cells #[.int .i64 x.f0, .int .i64 x.f1, .int .i64 x.f2.f0, .int .i64 x.f2.f1, .int .i64 x.f3] 69 (0, 0)) := by rw [hW]; exact blk_new wr _
        have hb1 : Below wr.heap.size wr W := by rw [hW]; repeat (first | exact Below.refl _ _ | apply below_alloc | refine below_set ?_ (by simp))
        clear hW
        generalize hX : wr.heap.size = X at B0 ⊢
        replace HB := Aside0.mk (bthen HB.out hb1)
        have HO1 := Aside0.mk (Kd.R_below HO.out hb1)
        have b2 : W.cell? ⟨X, 2, none⟩ = some (.int .i64 x.f2.f0) := blk_cell B0 2
        have b3 : W.cell? ⟨X, 3, none⟩ = some (.int .i64 x.f2.f1) := blk_cell B0 3
        have b4 : W.cell? ⟨X, 4, none⟩ = some (.int .i64 x.f3) := blk_cell B0 4
        clear h0 h1 h2 h3 h4 hb1 hX HO
        go_wp2_with (at_builtin; refine appRw (w0 := w) (base := w.heap.size) (xs := (l.take k).flatMap (eachR how)) (ok := okT) rfl rfl rfl HO1.out (fun _ _ => trivial) HB.out (by have := HB.out.size; omega) (by omega) ?_; intro v1 w1 hr1 hb1 hg1 ha1; have HO2 := Aside0.mk hr1; have HG_ := Aside0.mk hg1; replace HB := Aside0.mk hb1; clear hr1 hb1 hg1 ha1)
        go_roundw
        case rel => exact ⟨k + 1, by omega, by go_num, ⟨by rw [fm_snoc HX.out, eachR_3 g0 g1, HK.out]; exact HO2.out⟩, HB⟩
        case measure => simp [intOf]; omega
    · obtain rfl : k = l.length := by omega
      rw [List.take_length] at HO
      have hpl := eachR_len how l
      go_wp2_with (go_at_call 71; ((with_reducible refine (impl_batch _ (l.flatMap (eachR how)) _ (Sl.of_R HO.out) hfit.out (by omega)).mono ?_); rintro e w' ⟨u2, rfl, hr, hb⟩; have HF2 := Aside0.mk (Kd.R_lower hr HB.out.size); replace HB := Aside0.mk (bthen HB.out hb); clear hr hb))
      go_ret2
      exact BatchP.mk rfl HF2.out HB.out
set_option maxRecDepth 100000 in
set_option maxHeartbeats 2000000 in
theorem impl_FlowEach (v : Value) (l : List Rw) (how : Int) (w : World) (h : Sl kRw w v l) : Calls Try.prog 31 #[v, .int .i64 how] w (RetR kRw 69 w (flowEach l how)) := by
  have HS := Aside0.mk h
  cases hs : rowsOk l
  · have HB := Aside0.mk (Below.refl w.heap.size w)
    go_enter Try.func31, Try.ntmps31
    go_wp2_with (go_at_call 70; ((with_reducible refine (impl_RowsOk _ l _ (HS.out.below HB.out)).mono ?_); rintro e w' ⟨rfl, hb⟩; replace HB := Aside0.mk (bthen HB.out hb); clear hb))
    go_ret
    exact RetR.mk (by rw [flowEach, hs]; exact Kd.R_nil _ _ _ _ _) HB.out
  · cases hh : (decide (1 ≤ how) && decide (how ≤ 7))
    · have HB := Aside0.mk (Below.refl w.heap.size w)
      go_enter Try.func31, Try.ntmps31
      go_wp2_with (first | (go_at_call 70; ((with_reducible refine (impl_RowsOk _ l _ (HS.out.below HB.out)).mono ?_); rintro e w' ⟨rfl, hb⟩; replace HB := Aside0.mk (bthen HB.out hb); clear hb)) | (go_at_call 86; ((with_reducible refine (impl_howOk _ _).mono ?_); rintro e w' ⟨rfl, rfl⟩)))
      go_ret
      exact RetR.mk (by rw [flowEach, hs, Bool.true_and, hh]; exact Kd.R_nil _ _ _ _ _) HB.out
    · have hh2 := hh
      simp only [Bool.and_eq_true, decide_eq_true_eq] at hh2
      obtain ⟨g0, g1⟩ := hh2
      obtain ⟨a1, a2⟩ := rowsOk_all hs
      have A2 := Aside0.mk a2
      have HH := Aside0.mk hh
      clear a2
      have HB := Aside0.mk (Below.refl w.heap.size w)
      go_enter Try.func31, Try.ntmps31
      go_wp2_with (first | (go_at_call 70; ((with_reducible refine (impl_RowsOk _ l _ (HS.out.below HB.out)).mono ?_); rintro e w' ⟨rfl, hb⟩; replace HB := Aside0.mk (bthen HB.out hb); clear hb)) | (go_at_call 86; ((with_reducible refine (impl_howOk _ _).mono ?_); rintro e w' ⟨rfl, rfl⟩)) | (go_at_call 87; ((with_reducible refine (impl_flowEach _ l how _ (HS.out.below HB.out) A2.out (by omega) g0 g1).mono ?_); rintro e w' ⟨u2, rfl, hr, hb⟩; have HF2 := Aside0.mk (Kd.R_lower hr HB.out.size); replace HB := Aside0.mk (bthen HB.out hb); clear hr hb)))
      go_ret
      exact RetR.mk (by rw [flowEach, hs, Bool.true_and, HH.out]; exact HF2.out) HB.out
set_option maxRecDepth 100000 in
set_option maxHeartbeats 4000000 in
theorem spec_l11Each (v : Value) (l : List Rw) (how : Int) (w : World) (h : Sl kRw w v l) (hall0 : ∀ r ∈ l, rowOk r = true) (hl : l.length ≤ 1000) (g0 : 1 ≤ how) (g1 : how ≤ 7) : Calls Try.prog 89 #[v, .int .i64 how] w (RetR kRw 69 w (sum (l.flatMap (eachR how)))) := by
  obtain ⟨A, c_, rfl, HC, hr⟩ := h
  have hm := Kd.C_max hr
  have HR := Aside0.mk hr
  clear hr
  have hall := Aside0.mk hall0
  clear hall0
  have HB := Aside0.mk (Below.refl w.heap.size w)
  go_enter Try.func89, Try.ntmps89
  go_wp2
  go_loopw [5, 6] (fun o i wr => ∃ (k : Nat), k ≤ l.length ∧ i = .int .i64 k ∧ Aside0 (kRw.R 69 wr w.heap.size okT o ((l.take k).flatMap (eachR how))) ∧ Aside0 (Below w.heap.size w wr)) (fun _ i _ => l.length - (intOf i).toNat)
  case atStart => exact ⟨0, Nat.zero_le _, rfl, ⟨R_none (blk_new w _) (Nat.le_refl _) trivial⟩, ⟨below_alloc HB.out _⟩⟩
  case round =>
    clear HB
    obtain ⟨k, hk, rfl, HO, HB⟩ := hrel
    by_cases hlt : k < l.length
    · obtain ⟨ad, x, e, HX, h0, h1, h2, h3, h4⟩ := rdRw HR.out HB.out hlt
      cases e
      have a1 : (ad.add (k * 5)).block < w.heap.size := add_blk ad (k * 5) ▸ rwLt HR.out hlt
      have hpl := eachR_take how l k
      have hx := rowOk_in (hall.out x (List.mem_of_getElem? HX.out))
      have p0 := fun u => Ext.cell h0 u
      have p1 := fun u => Ext.cell h1 u
      have O1 := fun W => spec_l3One x.f0 x.f1 how hx.1.1 hx.1.2 hx.2.1.1 hx.2.1.2 g0 g1 W
      go_wp2
      refine wp_region_ext (by kernel_rfl) (by kernel_rfl) ?_
      repeat (any_goals (first | go_big_quiet_step ((go_at_call 133; exact Calls.extQ (O1 _))) | quiet_step ((go_at_call 133; exact Calls.extQ (O1 _))) | (refine wpQuiet_step (fun K hK => ?_); go_simp; split <;> (refine hK _ ?_; clear hK K))))
      all_goals (refine wpQuiet_nil ?_; intro u)
      have HO1 := Aside0.mk (Kd.R_below HO.out u.bel)
      replace h2 := pw_cell_below u.bel h2
      replace h3 := pw_cell_below u.bel h3
      replace h4 := pw_cell_below u.bel h4
      replace HB := Aside0.mk (bthen HB.out u.bel)
      clear p0 p1 h0 h1 O1 HO
      generalize u.w' = W at *
      have hws := HB.out.size
      cases hkp : (each3 x.f0 x.f1 how).2.2
      · have HK := Aside0.mk hkp
        go_wp2
        go_roundw
        case rel => exact ⟨k + 1, by omega, by go_num, ⟨by rw [fm_snoc HX.out, eachR_3 g0 g1, HK.out]; simpa using HO1.out⟩, HB⟩
        case measure => simp [intOf]; omega
      · have HK := Aside0.mk hkp
        go_wp2
        have HOd := Aside0.mk (R_drew HO1.out)
        go_region_held3 (fun w' => w'.cell? ⟨(ad.add (k * 5)).block, (ad.add (k * 5)).off + 2, none⟩ = some (.int .i64 x.f2.f0) ∧ w'.cell? ⟨(ad.add (k * 5)).block, (ad.add (k * 5)).off + 3, none⟩ = some (.int .i64 x.f2.f1) ∧ w'.cell? ⟨(ad.add (k * 5)).block, (ad.add (k * 5)).off + 4, none⟩ = some (.int .i64 x.f3)) (first | exact ⟨h2, h3, h4⟩ | exact HM | exact ⟨pw_cell_below (by repeat (first | exact Below.refl _ _ | apply below_alloc | apply below_drew | assumption)) h2, pw_cell_below (by repeat (first | exact Below.refl _ _ | apply below_alloc | apply below_drew | assumption)) h3, pw_cell_below (by repeat (first | exact Below.refl _ _ | apply below_alloc | apply below_drew | assumption)) h4⟩)
          (first
           | (refine stepRw (W := W.drew) (base := w.heap.size) (xs := (l.take k).flatMap (eachR how)) (ok := okT) rfl rfl rfl HOd.out (fun q hq => by have : W.drew.heap.size = W.heap.size := rfl; first | trivial | omega) (by show _ ≤ W.heap.size; omega) (by omega) ?_; intro v1 w1 hr1 hb1 hg1; have HO4 := Aside0.mk hr1; have HB4 := Aside0.mk (below_more (below_drew HB.out) hb1); have HG4 := Aside0.mk hg1; have HM : w1.cell? ⟨(ad.add (k * 5)).block, (ad.add (k * 5)).off + 2, none⟩ = some (.int .i64 x.f2.f0) ∧ w1.cell? ⟨(ad.add (k * 5)).block, (ad.add (k * 5)).off + 3, none⟩ = some (.int .i64 x.f2.f1) ∧ w1.cell? ⟨(ad.add (k * 5)).block, (ad.add (k * 5)).off + 4, none⟩ = some (.int .i64 x.f3) := ⟨cell_app HOd.out hg1 h2 (by first | exact Or.inl (by assumption) | exact Or.inr (fun e => e rfl) | exact Or.inr (fun e => e.1 rfl) | exact Or.inr (fun e => e.2 rfl) | exact Or.inl (Nat.lt_of_lt_of_le (by assumption) (by omega))), cell_app HOd.out hg1 h3 (by first | exact Or.inl (by assumption) | exact Or.inr (fun e => e rfl) | exact Or.inr (fun e => e.1 rfl) | exact Or.inr (fun e => e.2 rfl) | exact Or.inl (Nat.lt_of_lt_of_le (by assumption) (by omega))), cell_app HOd.out hg1 h4 (by first | exact Or.inl (by assumption) | exact Or.inr (fun e => e rfl) | exact Or.inr (fun e => e.1 rfl) | exact Or.inr (fun e => e.2 rfl) | exact Or.inl (Nat.lt_of_lt_of_le (by assumption) (by omega)))⟩; clear hr1 hb1 hg1))
        go_wp2
        go_roundw
        case rel => exact ⟨k + 1, by omega, by go_num, ⟨by rw [fm_snoc HX.out, eachR_3 g0 g1, HK.out]; exact HO4.out⟩, HB4⟩
        case measure => simp [intOf]; omega
    · obtain rfl : k = l.length := by omega
      rw [List.take_length] at HO
      have hpl := eachR_len how l
      go_wp2_with (go_at_call 74; ((with_reducible refine (spec_l2Sum _ (l.flatMap (eachR how)) _ (Sl.of_R HO.out) (by omega)).mono ?_); rintro e w' ⟨u, rfl, hr, hb⟩; have HF := Aside0.mk (Kd.R_lower hr HB.out.size); replace HB := Aside0.mk (bthen HB.out hb); clear hr hb))
      go_ret
      exact RetR.mk HF.out HB.out
set_option maxRecDepth 100000 in
set_option maxHeartbeats 2000000 in
theorem spec_FlowEach (v : Value) (l : List Rw) (how : Int) (w : World) (h : Sl kRw w v l) : Calls Try.prog 32 #[v, .int .i64 how] w fun e w' => ∃ u, e = .returned u ∧ Sl kRw w' u (flowEach l how) ∧ Below w.heap.size w w' := by
  have HS := Aside0.mk h
  cases hs : rowsOk l
  · have HB := Aside0.mk (Below.refl w.heap.size w)
    go_enter Try.func32, Try.ntmps32
    go_wp2_with (go_at_call 19; ((with_reducible refine (spec_RowsOk _ l _ (HS.out.below HB.out)).mono ?_); rintro e wb ⟨rfl, hb⟩; replace HB := Aside0.mk (bthen HB.out hb); clear hb))
    go_ret
    exact ⟨_, rfl, by rw [flowEach, hs]; exact Sl.of_R (R_none (e := 69) (ok := okT) (blk_new wb _) (Nat.le_refl _) trivial), below_alloc HB.out _⟩
  · cases hh : (decide (1 ≤ how) && decide (how ≤ 7))
    · have HB := Aside0.mk (Below.refl w.heap.size w)
      go_enter Try.func32, Try.ntmps32
      go_wp2_with (first | (go_at_call 19; ((with_reducible refine (spec_RowsOk _ l _ (HS.out.below HB.out)).mono ?_); rintro e wb ⟨rfl, hb⟩; replace HB := Aside0.mk (bthen HB.out hb); clear hb)) | (go_at_call 88; ((with_reducible refine (spec_l3Way _ _).mono ?_); rintro e w' ⟨rfl, rfl⟩)))
      go_ret
      exact ⟨_, rfl, by rw [flowEach, hs, Bool.true_and, hh]; exact Sl.of_R (R_none (e := 69) (ok := okT) (blk_new wb _) (Nat.le_refl _) trivial), below_alloc HB.out _⟩
    · have hh2 := hh
      simp only [Bool.and_eq_true, decide_eq_true_eq] at hh2
      obtain ⟨g0, g1⟩ := hh2
      obtain ⟨a1, a2⟩ := rowsOk_all hs
      have A2 := Aside0.mk a2
      have HH := Aside0.mk hh
      clear a2
      have HB := Aside0.mk (Below.refl w.heap.size w)
      go_enter Try.func32, Try.ntmps32
      go_wp2_with (first
        | (go_at_call 19; ((with_reducible refine (spec_RowsOk _ l _ (HS.out.below HB.out)).mono ?_); rintro e w' ⟨rfl, hb⟩; replace HB := Aside0.mk (bthen HB.out hb); clear hb)) | (go_at_call 88; ((with_reducible refine (spec_l3Way _ _).mono ?_); rintro e w' ⟨rfl, rfl⟩)) | (go_at_call 89; ((with_reducible refine (spec_l11Each _ l how _ (HS.out.below HB.out) A2.out (by omega) g0 g1).mono ?_); rintro e w' ⟨u, rfl, hr, hb⟩; have HF := Aside0.mk (Kd.R_lower hr HB.out.size); replace HB := Aside0.mk (bthen HB.out hb); clear hr hb))
        | (go_at_call 73; ((with_reducible refine (spec_l2Fit _ (sum (l.flatMap (eachR how))) _ (Sl.of_R HF.out)).mono ?_); rintro e w' ⟨u2, rfl, hr, hb⟩; have HF2 := Aside0.mk hr; replace HB := Aside0.mk (bthen HB.out hb); clear hr hb)))
      go_ret
      exact ⟨_, rfl, by rw [flowEach, hs, Bool.true_and, HH.out]; exact HF2.out, HB.out⟩
end Go.Proofs.Ytlmglffdmoklcaa.X
