/- The walks of flows, and what holds of rows, plainly. Conditions: none. -/
import Derived.Test.YthljcnlmeefcjaaYASb
import Derived.Test.YthljcnlmeefcjaaYCPl
import Derived.Test.YthljcnlmeefcjaaYAPl
import Derived.Test.YthljcnlmeefcjaaYADr
namespace Go.Proofs.Ythljcnlmeefcjaa.X
open Go.RowKit Go.Proofs.YthljcnlmeefcjaaW.PrintWords
set_option linter.unusedVariables false
set_option linter.unusedSimpArgs false

def eachR (how : Int) (r : Rw) : List Rw := match eachKV r.f0 r.f1 how with | some (a, b) => [⟨a, b, r.f2, r.f3⟩] | none => []
theorem eachR_3 {r : Rw} {how : Int} (h0 : 1 ≤ how) (h1 : how ≤ 7) : eachR how r = if (each3 r.f0 r.f1 how).2.2 = true then [⟨(each3 r.f0 r.f1 how).1, (each3 r.f0 r.f1 how).2.1, r.f2, r.f3⟩] else [] := by
  unfold eachR; rw [each3_kv h0 h1]
  cases (each3 r.f0 r.f1 how).2.2 <;> simp
theorem eachR_len (how : Int) (l : List Rw) : (l.flatMap (eachR how)).length ≤ l.length := by
  have := len_flatMap (c := 1) (s := l) (g := eachR how) (fun r _ => by unfold eachR; cases eachKV r.f0 r.f1 how with | none => simp | some p => obtain ⟨a, b⟩ := p; simp)
  omega
theorem eachR_take (how : Int) (l : List Rw) (k : Nat) : ((l.take k).flatMap (eachR how)).length ≤ k := Nat.le_trans (eachR_len how _) (by rw [List.length_take]; omega)
/-- a mapped row is a row -/
theorem eachR_ok {how : Int} {l : List Rw} (h : ∀ r ∈ l, rowOk r = true) : ∀ r ∈ l.flatMap (eachR how), rowOk r = true := fun y hy => by
  obtain ⟨r, hr, hy⟩ := List.mem_flatMap.1 hy
  have hk := rowOk_in (h r hr)
  unfold eachR at hy
  cases he : eachKV r.f0 r.f1 how with
  | none => rw [he] at hy; cases hy
  | some p =>
    obtain ⟨a, b⟩ := p
    rw [he] at hy
    rw [List.mem_singleton.1 hy]
    have := eachKV_ok hk.1.1 hk.1.2 hk.2.1.1 hk.2.1.2 he
    simp only [rowOk, tOk, Bool.and_eq_true, decide_eq_true_eq]; omega
def flowEach (l : List Rw) (how : Int) : List Rw := if rowsOk l && decide (1 ≤ how) && decide (how ≤ 7) then fit (sum (l.flatMap (eachR how))) else []
set_option maxRecDepth 100000 in
set_option maxHeartbeats 4000000 in
theorem impl_flowEach (v : Value) (l : List Rw) (how : Int) (w : World) (h : Sl kRw w v l) (hall0 : ∀ r ∈ l, rowOk r = true) (hl : l.length ≤ 1000) (g0 : 1 ≤ how) (g1 : how ≤ 7) : Calls Try.prog 143 #[v, .int .i64 how] w (BatchP w (sum (l.flatMap (eachR how)))) := by
  obtain ⟨A, c_, rfl, HC, hr⟩ := h
  have hm := Kd.C_max hr
  have HR := Aside0.mk hr
  clear hr
  have hall := Aside0.mk hall0
  have hfit := Aside0.mk (rowsOk_fit (eachR_ok (how := how) hall0))
  clear hall0
  have HB := Aside0.mk (Below.refl w.heap.size w)
  go_enter Try.func143, Try.ntmps143
  go_wp2
  go_loopw [6, 15] (fun o i wr => ∃ (k : Nat), k ≤ l.length ∧ i = .int .i64 k ∧ Aside0 (kRw.R 87 wr w.heap.size okT o ((l.take k).flatMap (eachR how))) ∧ Aside0 (Below w.heap.size w wr)) (fun _ i _ => l.length - (intOf i).toNat)
  case atStart => exact ⟨0, Nat.zero_le _, rfl, ⟨R_none (blk_new w _) (Nat.le_refl _) trivial⟩, ⟨below_alloc HB.out _⟩⟩
  case round =>
    clear HB
    obtain ⟨k, hk, rfl, HO, HB⟩ := hrel
    by_cases hlt : k < l.length
    · obtain ⟨ad, x, e, HX, h0, h1, h2, h3, h4⟩ := rdRw HR.out HB.out hlt
      cases e
      have hws := HB.out.size
      have hpl := eachR_take how l k
      have hx := rowOk_in (hall.out x (List.mem_of_getElem? HX.out))
      cases hkp : (each3 x.f0 x.f1 how).2.2
      · have HK := Aside0.mk hkp
        go_wp2_with (go_at_call 191; ((with_reducible refine (impl_each x.f0 x.f1 how hx.1.1 hx.1.2 hx.2.1.1 hx.2.1.2 g0 g1 _).mono ?_); rintro e w' ⟨rfl, rfl⟩))
        go_roundw
        case rel => exact ⟨k + 1, by omega, by go_num, ⟨by rw [fm_snoc HX.out, eachR_3 g0 g1, HK.out]; simpa using Kd.R_alloc HO.out _⟩, ⟨below_alloc HB.out _⟩⟩
        case measure => simp [intOf]; omega
      · have HK := Aside0.mk hkp
        go_upto_region 7 with (go_at_call 191; ((with_reducible refine (impl_each x.f0 x.f1 how hx.1.1 hx.1.2 hx.2.1.1 hx.2.1.2 g0 g1 _).mono ?_); rintro e w' ⟨rfl, rfl⟩))
        refine name_world fun W hW => ?_
        have B0 : W.heap[wr.heap.size]? = some (.cells #[.int .i64 x.f0, .int .i64 x.f1, .int .i64 x.f2.f0, .int .i64 x.f2.f1, .int .i64 x.f3] 87 (0, 0)) := by rw [hW]; exact blk_new wr _
        have hb1 : Below wr.heap.size wr W := by rw [hW]; repeat (first | exact Below.refl _ _ | apply below_alloc | refine below_set ?_ (by simp))
        clear hW
        generalize hX : wr.heap.size = X at B0 ⊢
        replace HB := Aside0.mk (bthen HB.out hb1)
        have HO1 := Aside0.mk (Kd.R_below HO.out hb1)
        have b2 : W.cell? ⟨X, 2, none⟩ = some (.int .i64 x.f2.f0) := blk_cell B0 2
        have b3 : W.cell? ⟨X, 3, none⟩ = some (.int .i64 x.f2.f1) := blk_cell B0 3
        have b4 : W.cell? ⟨X, 4, none⟩ = some (.int .i64 x.f3) := blk_cell B0 4
        clear h0 h1 h2 h3 h4 hb1 hX HO
        go_wp2_with (at_builtin; refine appRw (w0 := w) (base := w.heap.size) (xs := (l.take k).flatMap (eachR how)) (ok := okT) rfl rfl rfl HO1.out (fun _ _ => trivial) HB.out (by have := HB.out.size; omega) (by omega) ?_; intro v1 w1 hr1 hb1 hg1 ha1; have HO2 := Aside0.mk hr1; have HG_ := Aside0.mk hg1; replace HB := Aside0.mk hb1; clear hr1 hb1 hg1 ha1)
        go_roundw
        case rel => exact ⟨k + 1, by omega, by go_num, ⟨by rw [fm_snoc HX.out, eachR_3 g0 g1, HK.out]; exact HO2.out⟩, HB⟩
        case measure => simp [intOf]; omega
    · obtain rfl : k = l.length := by omega
      rw [List.take_length] at HO
      have hpl := eachR_len how l
      go_wp2_with (go_at_call 121; ((with_reducible refine (impl_batch _ (l.flatMap (eachR how)) _ (Sl.of_R HO.out) hfit.out (by omega)).mono ?_); rintro e w' ⟨u2, rfl, hr, hb⟩; have HF2 := Aside0.mk (Kd.R_lower hr HB.out.size); replace HB := Aside0.mk (bthen HB.out hb); clear hr hb))
      go_ret2
      exact BatchP.mk rfl HF2.out HB.out
set_option maxRecDepth 100000 in
set_option maxHeartbeats 2000000 in
theorem impl_FlowEach (v : Value) (l : List Rw) (how : Int) (w : World) (h : Sl kRw w v l) : Calls Try.prog 56 #[v, .int .i64 how] w (RetR kRw 87 w (flowEach l how)) := by
  have HS := Aside0.mk h
  cases hs : rowsOk l
  · have HB := Aside0.mk (Below.refl w.heap.size w)
    go_enter Try.func56, Try.ntmps56
    go_wp2_with (go_at_call 141; ((with_reducible refine (impl_RowsOk _ l _ (HS.out.below HB.out)).mono ?_); rintro e w' ⟨rfl, hb⟩; replace HB := Aside0.mk (bthen HB.out hb); clear hb))
    go_ret
    exact RetR.mk (by rw [flowEach, hs]; exact Kd.R_nil _ _ _ _ _) HB.out
  · cases hh : (decide (1 ≤ how) && decide (how ≤ 7))
    · have HB := Aside0.mk (Below.refl w.heap.size w)
      go_enter Try.func56, Try.ntmps56
      go_wp2_with (first | (go_at_call 141; ((with_reducible refine (impl_RowsOk _ l _ (HS.out.below HB.out)).mono ?_); rintro e w' ⟨rfl, hb⟩; replace HB := Aside0.mk (bthen HB.out hb); clear hb)) | (go_at_call 142; ((with_reducible refine (impl_howOk _ _).mono ?_); rintro e w' ⟨rfl, rfl⟩)))
      go_ret
      exact RetR.mk (by rw [flowEach, hs, Bool.true_and, hh]; exact Kd.R_nil _ _ _ _ _) HB.out
    · have hh2 := hh
      simp only [Bool.and_eq_true, decide_eq_true_eq] at hh2
      obtain ⟨g0, g1⟩ := hh2
      obtain ⟨a1, a2⟩ := rowsOk_all hs
      have A2 := Aside0.mk a2
      have HH := Aside0.mk hh
      clear a2
      have HB := Aside0.mk (Below.refl w.heap.size w)
      go_enter Try.func56, Try.ntmps56
      go_wp2_with (first | (go_at_call 141; ((with_reducible refine (impl_RowsOk _ l _ (HS.out.below HB.out)).mono ?_); rintro e w' ⟨rfl, hb⟩; replace HB := Aside0.mk (bthen HB.out hb); clear hb)) | (go_at_call 142; ((with_reducible refine (impl_howOk _ _).mono ?_); rintro e w' ⟨rfl, rfl⟩)) | (go_at_call 143; ((with_reducible refine (impl_flowEach _ l how _ (HS.out.below HB.out) A2.out (by omega) g0 g1).mono ?_); rintro e w' ⟨u2, rfl, hr, hb⟩; have HF2 := Aside0.mk (Kd.R_lower hr HB.out.size); replace HB := Aside0.mk (bthen HB.out hb); clear hr hb)))
      go_ret
      exact RetR.mk (by rw [flowEach, hs, Bool.true_and, HH.out]; exact HF2.out) HB.out
set_option maxRecDepth 100000 in
set_option maxHeartbeats 4000000 in
theorem spec_l11Each (v : Value) (l : List Rw) (how : Int) (w : World) (h : Sl kRw w v l) (hall0 : ∀ r ∈ l, rowOk r = true) (hl : l.length ≤ 1000) (g0 : 1 ≤ how) (g1 : how ≤ 7) : Calls Try.prog 145 #[v, .int .i64 how] w (RetR kRw 87 w (sum (l.flatMap (eachR how)))) := by
  obtain ⟨A, c_, rfl, HC, hr⟩ := h
  have hm := Kd.C_max hr
  have HR := Aside0.mk hr
  clear hr
  have hall := Aside0.mk hall0
  clear hall0
  have HB := Aside0.mk (Below.refl w.heap.size w)
  go_enter Try.func145, Try.ntmps145
  go_wp2
  go_loopw [5, 6] (fun o i wr => ∃ (k : Nat), k ≤ l.length ∧ i = .int .i64 k ∧ Aside0 (kRw.R 87 wr w.heap.size okT o ((l.take k).flatMap (eachR how))) ∧ Aside0 (Below w.heap.size w wr)) (fun _ i _ => l.length - (intOf i).toNat)
  case atStart => exact ⟨0, Nat.zero_le _, rfl, ⟨R_none (blk_new w _) (Nat.le_refl _) trivial⟩, ⟨below_alloc HB.out _⟩⟩
  case round =>
    clear HB
    obtain ⟨k, hk, rfl, HO, HB⟩ := hrel
    by_cases hlt : k < l.length
    · obtain ⟨ad, x, e, HX, h0, h1, h2, h3, h4⟩ := rdRw HR.out HB.out hlt
      cases e
      have a1 : (ad.add (k * 5)).block < w.heap.size := add_blk ad (k * 5) ▸ rwLt HR.out hlt
      have hpl := eachR_take how l k
      have hx := rowOk_in (hall.out x (List.mem_of_getElem? HX.out))
      have p0 := fun u => Ext.cell h0 u
      have p1 := fun u => Ext.cell h1 u
      have O1 := fun W => spec_l3One x.f0 x.f1 how hx.1.1 hx.1.2 hx.2.1.1 hx.2.1.2 g0 g1 W
      go_wp2
      refine wp_region_ext (by kernel_rfl) (by kernel_rfl) ?_
      repeat (any_goals (first | go_big_quiet_step ((go_at_call 192; exact Calls.extQ (O1 _))) | quiet_step ((go_at_call 192; exact Calls.extQ (O1 _))) | (refine wpQuiet_step (fun K hK => ?_); go_simp; split <;> (refine hK _ ?_; clear hK K))))
      all_goals (refine wpQuiet_nil ?_; intro u)
      have HO1 := Aside0.mk (Kd.R_below HO.out u.bel)
      replace h2 := pw_cell_below u.bel h2
      replace h3 := pw_cell_below u.bel h3
      replace h4 := pw_cell_below u.bel h4
      replace HB := Aside0.mk (bthen HB.out u.bel)
      clear p0 p1 h0 h1 O1 HO
      generalize u.w' = W at *
      have hws := HB.out.size
      cases hkp : (each3 x.f0 x.f1 how).2.2
      · have HK := Aside0.mk hkp
        go_wp2
        go_roundw
        case rel => exact ⟨k + 1, by omega, by go_num, ⟨by rw [fm_snoc HX.out, eachR_3 g0 g1, HK.out]; simpa using HO1.out⟩, HB⟩
        case measure => simp [intOf]; omega
      · have HK := Aside0.mk hkp
        go_wp2
        have HOd := Aside0.mk (R_drew HO1.out)
        go_region_held3 (fun w' => w'.cell? ⟨(ad.add (k * 5)).block, (ad.add (k * 5)).off + 2, none⟩ = some (.int .i64 x.f2.f0) ∧ w'.cell? ⟨(ad.add (k * 5)).block, (ad.add (k * 5)).off + 3, none⟩ = some (.int .i64 x.f2.f1) ∧ w'.cell? ⟨(ad.add (k * 5)).block, (ad.add (k * 5)).off + 4, none⟩ = some (.int .i64 x.f3)) (first | exact ⟨h2, h3, h4⟩ | exact HM | exact ⟨pw_cell_below (by repeat (first | exact Below.refl _ _ | apply below_alloc | apply below_drew | assumption)) h2, pw_cell_below (by repeat (first | exact Below.refl _ _ | apply below_alloc | apply below_drew | assumption)) h3, pw_cell_below (by repeat (first | exact Below.refl _ _ | apply below_alloc | apply below_drew | assumption)) h4⟩)
          (first
           | (refine stepRw (W := W.drew) (base := w.heap.size) (xs := (l.take k).flatMap (eachR how)) (ok := okT) rfl rfl rfl HOd.out (fun q hq => by have : W.drew.heap.size = W.heap.size := rfl; first | trivial | omega | ((try dsimp only); omega)) (by show _ ≤ W.heap.size; omega) (by omega) ?_; intro v1 w1 hr1 hb1 hg1; have HO4 := Aside0.mk hr1; have HB4 := Aside0.mk (below_more (below_drew HB.out) hb1); have HG4 := Aside0.mk hg1; have HM : w1.cell? ⟨(ad.add (k * 5)).block, (ad.add (k * 5)).off + 2, none⟩ = some (.int .i64 x.f2.f0) ∧ w1.cell? ⟨(ad.add (k * 5)).block, (ad.add (k * 5)).off + 3, none⟩ = some (.int .i64 x.f2.f1) ∧ w1.cell? ⟨(ad.add (k * 5)).block, (ad.add (k * 5)).off + 4, none⟩ = some (.int .i64 x.f3) := ⟨cell_app HOd.out hg1 h2 (by first | exact Or.inl (by assumption) | exact Or.inr (fun e => e rfl) | exact Or.inr (fun e => e.1 rfl) | exact Or.inr (fun e => e.2 rfl) | exact Or.inl (Nat.lt_of_lt_of_le (by assumption) (by omega)) | exact Or.inr (by intro e; (try dsimp only at e); omega)), cell_app HOd.out hg1 h3 (by first | exact Or.inl (by assumption) | exact Or.inr (fun e => e rfl) | exact Or.inr (fun e => e.1 rfl) | exact Or.inr (fun e => e.2 rfl) | exact Or.inl (Nat.lt_of_lt_of_le (by assumption) (by omega)) | exact Or.inr (by intro e; (try dsimp only at e); omega)), cell_app HOd.out hg1 h4 (by first | exact Or.inl (by assumption) | exact Or.inr (fun e => e rfl) | exact Or.inr (fun e => e.1 rfl) | exact Or.inr (fun e => e.2 rfl) | exact Or.inl (Nat.lt_of_lt_of_le (by assumption) (by omega)) | exact Or.inr (by intro e; (try dsimp only at e); omega))⟩; clear hr1 hb1 hg1))
        go_wp2
        go_roundw
        case rel => exact ⟨k + 1, by omega, by go_num, ⟨by rw [fm_snoc HX.out, eachR_3 g0 g1, HK.out]; exact HO4.out⟩, HB4⟩
        case measure => simp [intOf]; omega
    · obtain rfl : k = l.length := by omega
      rw [List.take_length] at HO
      have hpl := eachR_len how l
      go_wp2_with (go_at_call 138; ((with_reducible refine (spec_l2Sum _ (l.flatMap (eachR how)) _ (Sl.of_R HO.out) (by omega)).mono ?_); rintro e w' ⟨u, rfl, hr, hb⟩; have HF := Aside0.mk (Kd.R_lower hr HB.out.size); replace HB := Aside0.mk (bthen HB.out hb); clear hr hb))
      go_ret
      exact RetR.mk HF.out HB.out
set_option maxRecDepth 100000 in
set_option maxHeartbeats 2000000 in
theorem spec_FlowEach (v : Value) (l : List Rw) (how : Int) (w : World) (h : Sl kRw w v l) : Calls Try.prog 58 #[v, .int .i64 how] w fun e w' => ∃ u, e = .returned u ∧ Sl kRw w' u (flowEach l how) ∧ Below w.heap.size w w' := by
  have HS := Aside0.mk h
  cases hs : rowsOk l
  · have HB := Aside0.mk (Below.refl w.heap.size w)
    go_enter Try.func58, Try.ntmps58
    go_wp2_with (go_at_call 71; ((with_reducible refine (spec_RowsOk _ l _ (HS.out.below HB.out)).mono ?_); rintro e wb ⟨rfl, hb⟩; replace HB := Aside0.mk (bthen HB.out hb); clear hb))
    go_ret
    exact ⟨_, rfl, by rw [flowEach, hs]; exact Sl.of_R (R_none (e := 87) (ok := okT) (blk_new wb _) (Nat.le_refl _) trivial), below_alloc HB.out _⟩
  · cases hh : (decide (1 ≤ how) && decide (how ≤ 7))
    · have HB := Aside0.mk (Below.refl w.heap.size w)
      go_enter Try.func58, Try.ntmps58
      go_wp2_with (first | (go_at_call 71; ((with_reducible refine (spec_RowsOk _ l _ (HS.out.below HB.out)).mono ?_); rintro e wb ⟨rfl, hb⟩; replace HB := Aside0.mk (bthen HB.out hb); clear hb)) | (go_at_call 144; ((with_reducible refine (spec_l3Way _ _).mono ?_); rintro e w' ⟨rfl, rfl⟩)))
      go_ret
      exact ⟨_, rfl, by rw [flowEach, hs, Bool.true_and, hh]; exact Sl.of_R (R_none (e := 87) (ok := okT) (blk_new wb _) (Nat.le_refl _) trivial), below_alloc HB.out _⟩
    · have hh2 := hh
      simp only [Bool.and_eq_true, decide_eq_true_eq] at hh2
      obtain ⟨g0, g1⟩ := hh2
      obtain ⟨a1, a2⟩ := rowsOk_all hs
      have A2 := Aside0.mk a2
      have HH := Aside0.mk hh
      clear a2
      have HB := Aside0.mk (Below.refl w.heap.size w)
      go_enter Try.func58, Try.ntmps58
      go_wp2_with (first
        | (go_at_call 71; ((with_reducible refine (spec_RowsOk _ l _ (HS.out.below HB.out)).mono ?_); rintro e w' ⟨rfl, hb⟩; replace HB := Aside0.mk (bthen HB.out hb); clear hb)) | (go_at_call 144; ((with_reducible refine (spec_l3Way _ _).mono ?_); rintro e w' ⟨rfl, rfl⟩)) | (go_at_call 145; ((with_reducible refine (spec_l11Each _ l how _ (HS.out.below HB.out) A2.out (by omega) g0 g1).mono ?_); rintro e w' ⟨u, rfl, hr, hb⟩; have HF := Aside0.mk (Kd.R_lower hr HB.out.size); replace HB := Aside0.mk (bthen HB.out hb); clear hr hb))
        | (go_at_call 137; ((with_reducible refine (spec_l2Fit _ (sum (l.flatMap (eachR how))) _ (Sl.of_R HF.out)).mono ?_); rintro e w' ⟨u2, rfl, hr, hb⟩; have HF2 := Aside0.mk hr; replace HB := Aside0.mk (bthen HB.out hb); clear hr hb)))
      go_ret
      exact ⟨_, rfl, by rw [flowEach, hs, Bool.true_and, HH.out]; exact HF2.out, HB.out⟩
end Go.Proofs.Ythljcnlmeefcjaa.X

namespace Go.Proofs.Ythljcnlmeefcjaa.X
open Go.RowKit Go.Proofs.YthljcnlmeefcjaaW.PrintWords
set_option linter.unusedVariables false
set_option linter.unusedSimpArgs false

def pairR (x y : Rw) : Rw := ⟨x.f0, jval x.f1 y.f1, tJoin x.f2 y.f2, wrap64 (x.f3 * y.f3)⟩
def jrowR (x : Rw) (t : List Rw) : List Rw := (t.filter fun y => decide (x.f0 = y.f0)).map (pairR x)
def pairsR (s t : List Rw) : List Rw := s.flatMap fun x => jrowR x t
def flowJoin (l m : List Rw) : List Rw := if rowsOk l && rowsOk m then fit (sum (pairsR l m)) else []
theorem pairsR_snoc {s : List Rw} {k : Nat} {x : Rw} (hx : s[k]? = some x) (t : List Rw) : pairsR (s.take (k + 1)) t = pairsR (s.take k) t ++ jrowR x t := by
  rw [take_snoc hx]; unfold pairsR; rw [List.flatMap_append]; simp
theorem jrowR_snoc {t : List Rw} {k : Nat} {y : Rw} (hy : t[k]? = some y) (x : Rw) : jrowR x (t.take (k + 1)) = jrowR x (t.take k) ++ (if x.f0 = y.f0 then [pairR x y] else []) := by
  rw [take_snoc hy]; unfold jrowR; rw [List.filter_append, List.map_append]
  by_cases h : x.f0 = y.f0 <;> simp [h]
theorem jrowR_len (x : Rw) (t : List Rw) : (jrowR x t).length ≤ t.length := by unfold jrowR; rw [List.length_map]; exact List.length_filter_le _ _
theorem pairsR_len (t : List Rw) : ∀ s : List Rw, (pairsR s t).length ≤ t.length * s.length := fun s => len_flatMap fun x _ => jrowR_len x t
theorem tJoin_in {s t : Tm} (hs : tOk s = true) (ht : tOk t = true) : tOk (tJoin s t) = true := by
  unfold tJoin; rw [hs, ht]
  simp only [tOk, Bool.and_eq_true, decide_eq_true_eq] at hs ht
  simp only [Bool.and_self, if_true, tOk, tmax, Bool.and_eq_true, decide_eq_true_eq]
  split <;> split <;> omega
/-- what a pair of rows in bounds is -/
theorem pairR_in {x y : Rw} (hx : rowOk x = true) (hy : rowOk y = true) : 0 ≤ (pairR x y).f0 ∧ (pairR x y).f0 ≤ 3 ∧ 0 ≤ (pairR x y).f1 ∧ (pairR x y).f1 ≤ 99 ∧ tOk (pairR x y).f2 = true ∧ (pairR x y).f3 = x.f3 * y.f3 ∧ (((pairR x y).f3).natAbs : Int) ≤ 9999800001 := by
  have a := rowOk_in hx
  have b := rowOk_in hy
  have hm : ((x.f3 * y.f3).natAbs : Int) ≤ 9999800001 := by
    rw [Int.natAbs_mul]
    have h1 : x.f3.natAbs ≤ 99999 := by omega
    have h2 : y.f3.natAbs ≤ 99999 := by omega
    have := Nat.mul_le_mul h1 h2
    omega
  have hw : wrap64 (x.f3 * y.f3) = x.f3 * y.f3 := wrap_abs (by omega)
  have ht : tOk (tJoin x.f2 y.f2) = true := tJoin_in (by simp only [rowOk, Bool.and_eq_true] at hx; exact hx.1.1.2) (by simp only [rowOk, Bool.and_eq_true] at hy; exact hy.1.1.2)
  have hj := jval_eq a.2.1.1 a.2.1.2 b.2.1.1 b.2.1.2
  unfold pairR
  simp only
  rw [hw, hj]
  exact ⟨a.1.1, a.1.2, by omega, by omega, ht, rfl, hm⟩
theorem pairsR_fit {s t : List Rw} (hs : ∀ r ∈ s, rowOk r = true) (ht : ∀ r ∈ t, rowOk r = true) : RwFit (pairsR s t) := RwFit.of fun z hz => by
  obtain ⟨x, hx, hz⟩ := List.mem_flatMap.1 hz
  obtain ⟨y, hy, rfl⟩ := List.mem_map.1 hz
  obtain ⟨h0, h1, h2, h3, h4, h5, h6⟩ := pairR_in (hs x hx) (ht y (List.mem_filter.1 hy).1)
  simp only [tOk, Bool.and_eq_true, decide_eq_true_eq] at h4
  omega
set_option maxRecDepth 100000 in
set_option maxHeartbeats 4000000 in
theorem impl_flowJoin (v v2 : Value) (s t : List Rw) (w : World) (h : Sl kRw w v s) (h2 : Sl kRw w v2 t) (hs0 : ∀ r ∈ s, rowOk r = true) (ht0 : ∀ r ∈ t, rowOk r = true) (hl1 : s.length ≤ 400) (hl2 : t.length ≤ 400) : Calls Try.prog 148 #[v, v2] w (BatchP w (sum (pairsR s t))) := by
  obtain ⟨A, c_, rfl, HC, hr⟩ := h
  have hm := Kd.C_max hr
  have HR := Aside0.mk hr
  clear hr
  obtain ⟨A2, c2_, rfl, HC2, hr2⟩ := h2
  have hm2 := Kd.C_max hr2
  have HR2 := Aside0.mk hr2
  clear hr2
  have hfit := Aside0.mk (pairsR_fit hs0 ht0)
  clear hs0 ht0
  have HB := Aside0.mk (Below.refl w.heap.size w)
  go_enter Try.func148, Try.ntmps148
  go_wp2
  go_loopw [6, 14] (fun o i wr => ∃ (k : Nat), k ≤ s.length ∧ i = .int .i64 k ∧ Aside0 (kRw.R 87 wr w.heap.size okT o (pairsR (s.take k) t)) ∧ Aside0 (Below w.heap.size w wr)) (fun _ i _ => s.length - (intOf i).toNat)
  case atStart => exact ⟨0, Nat.zero_le _, rfl, ⟨R_none (blk_new w _) (Nat.le_refl _) trivial⟩, ⟨below_alloc HB.out _⟩⟩
  case round =>
    clear HB
    obtain ⟨k, hk, rfl, HO, HB⟩ := hrel
    by_cases hlt : k < s.length
    · obtain ⟨ad, x, e, HX, h0, h1, h2, h3, h4⟩ := rdRw HR.out HB.out hlt
      cases e
      have hws := HB.out.size
      have hpl : (pairsR (s.take k) t).length ≤ 400 * 400 := Nat.le_trans (pairsR_len t (s.take k)) (Nat.mul_le_mul hl2 (by rw [List.length_take]; omega))
      go_upto_region 5 with fail
      refine name_world fun W1 hW => ?_
      have B0 : W1.heap[wr.heap.size]? = some (.cells #[.int .i64 x.f0, .int .i64 x.f1, .int .i64 x.f2.f0, .int .i64 x.f2.f1, .int .i64 x.f3] 87 (0, 0)) := by rw [hW]; exact blk_new wr _
      have hb1 : Below wr.heap.size wr W1 := by rw [hW]; repeat (first | exact Below.refl _ _ | apply below_alloc | refine below_set ?_ (by simp))
      clear hW
      generalize hX : wr.heap.size = X at B0 ⊢
      replace HB := Aside0.mk (bthen HB.out hb1)
      have HO1 := Aside0.mk (Kd.R_below (R_new (ok' := fun q => q ≠ X) HO.out (X := X) (by omega) (fun q _ h2 => by omega)) hb1)
      have hXw : w.heap.size ≤ X := by omega
      clear h0 h1 h2 h3 h4 hb1 hX HO
      go_wp2
      go_loopw [6, 20] (fun o i wq => ∃ (j : Nat), j ≤ t.length ∧ i = .int .i64 j ∧ Aside0 (kRw.R 87 wq w.heap.size (fun q => q ≠ X) o (pairsR (s.take k) t ++ jrowR x (t.take j))) ∧ Aside0 (wq.heap[X]? = some (.cells #[.int .i64 x.f0, .int .i64 x.f1, .int .i64 x.f2.f0, .int .i64 x.f2.f1, .int .i64 x.f3] 87 (0, 0))) ∧ Aside0 (Below w.heap.size w wq)) (fun _ i _ => t.length - (intOf i).toNat)
      case atStart => exact ⟨0, Nat.zero_le _, rfl, ⟨by simpa [jrowR] using HO1.out⟩, ⟨B0⟩, HB⟩
      case round =>
        clear HO1 HB B0
        obtain ⟨j, hj, rfl, HO, HB0, HB⟩ := hrel
        by_cases hlt2 : j < t.length
        · obtain ⟨ad2, y, e, HY, i0, i1, i2, i3, i4⟩ := rdRw HR2.out HB.out hlt2
          cases e
          have hwq := HB.out.size
          have hjl := jrowR_len x (t.take j)
          have b0 : wr.cell? ⟨X, 0, none⟩ = some (.int .i64 x.f0) := blk_cell HB0.out 0
          have hXl := blk_lt HB0.out
          cases hxy : (x.f0 == y.f0)
          · go_wp2
            go_roundw
            case rel => exact ⟨j + 1, by omega, by go_num, ⟨by rw [jrowR_snoc HY.out, if_neg (by simpa using hxy), List.append_nil]; exact Kd.R_alloc HO.out _⟩, ⟨blk_alloc HB0.out _⟩, ⟨below_alloc HB.out _⟩⟩
            case measure => simp [intOf]; omega
          · go_wp2
            refine name_world fun W hW => ?_
            have B1 : W.heap[wr.heap.size]? = some (.cells #[.int .i64 y.f0, .int .i64 y.f1, .int .i64 y.f2.f0, .int .i64 y.f2.f1, .int .i64 y.f3] 87 (0, 0)) := by rw [hW]; exact blk_new wr _
            have hb1 : Below wr.heap.size wr W := by rw [hW]; repeat (first | exact Below.refl _ _ | apply below_alloc | refine below_set ?_ (by simp))
            clear hW
            generalize hY : wr.heap.size = Y at B1 ⊢
            have HX0 := Aside0.mk (blk_below HB0.out hb1)
            have HO1 := Aside0.mk (Kd.R_below (R_new (ok' := fun q => q ≠ X ∧ q ≠ Y) HO.out (X := Y) (by omega) (fun q h1 h2 => ⟨h1, by omega⟩)) hb1)
            replace HB := Aside0.mk (bthen HB.out hb1)
            have hW0 := HB.out.size
            have hYl := blk_lt B1
            have hXW := blk_lt HX0.out
            clear b0 i0 i1 i2 i3 i4 hb1 HO hY HB0
            have c0 : W.cell? ⟨X, 0, none⟩ = some (.int .i64 x.f0) := blk_cell HX0.out 0
            have c1 : W.cell? ⟨X, 1, none⟩ = some (.int .i64 x.f1) := blk_cell HX0.out 1
            have c2 : W.cell? ⟨X, 2, none⟩ = some (.int .i64 x.f2.f0) := blk_cell HX0.out 2
            have c3 : W.cell? ⟨X, 3, none⟩ = some (.int .i64 x.f2.f1) := blk_cell HX0.out 3
            have c4 : W.cell? ⟨X, 4, none⟩ = some (.int .i64 x.f3) := blk_cell HX0.out 4
            have d1 : W.cell? ⟨Y, 1, none⟩ = some (.int .i64 y.f1) := blk_cell B1 1
            have d2 : W.cell? ⟨Y, 2, none⟩ = some (.int .i64 y.f2.f0) := blk_cell B1 2
            have d3 : W.cell? ⟨Y, 3, none⟩ = some (.int .i64 y.f2.f1) := blk_cell B1 3
            have d4 : W.cell? ⟨Y, 4, none⟩ = some (.int .i64 y.f3) := blk_cell B1 4
            have HOd := Aside0.mk (R_drew HO1.out)
            go_region_held3 (fun w' => w'.cell? ⟨X, 0, none⟩ = some (.int .i64 x.f0) ∧ w'.cell? ⟨X, 1, none⟩ = some (.int .i64 x.f1) ∧ w'.cell? ⟨X, 2, none⟩ = some (.int .i64 x.f2.f0) ∧ w'.cell? ⟨X, 3, none⟩ = some (.int .i64 x.f2.f1) ∧ w'.cell? ⟨X, 4, none⟩ = some (.int .i64 x.f3) ∧ w'.cell? ⟨Y, 1, none⟩ = some (.int .i64 y.f1) ∧ w'.cell? ⟨Y, 2, none⟩ = some (.int .i64 y.f2.f0) ∧ w'.cell? ⟨Y, 3, none⟩ = some (.int .i64 y.f2.f1) ∧ w'.cell? ⟨Y, 4, none⟩ = some (.int .i64 y.f3)) (first | exact ⟨c0, c1, c2, c3, c4, d1, d2, d3, d4⟩ | exact HM | exact ⟨pw_cell_below hb5 c0, pw_cell_below hb5 c1, pw_cell_below hb5 c2, pw_cell_below hb5 c3, pw_cell_below hb5 c4, pw_cell_below hb5 d1, pw_cell_below hb5 d2, pw_cell_below hb5 d3, pw_cell_below hb5 d4⟩ | exact ⟨pw_cell_below (by repeat (first | exact Below.refl _ _ | apply below_alloc | apply below_drew | assumption)) c0, pw_cell_below (by repeat (first | exact Below.refl _ _ | apply below_alloc | apply below_drew | assumption)) c1, pw_cell_below (by repeat (first | exact Below.refl _ _ | apply below_alloc | apply below_drew | assumption)) c2, pw_cell_below (by repeat (first | exact Below.refl _ _ | apply below_alloc | apply below_drew | assumption)) c3, pw_cell_below (by repeat (first | exact Below.refl _ _ | apply below_alloc | apply below_drew | assumption)) c4, pw_cell_below (by repeat (first | exact Below.refl _ _ | apply below_alloc | apply below_drew | assumption)) d1, pw_cell_below (by repeat (first | exact Below.refl _ _ | apply below_alloc | apply below_drew | assumption)) d2, pw_cell_below (by repeat (first | exact Below.refl _ _ | apply below_alloc | apply below_drew | assumption)) d3, pw_cell_below (by repeat (first | exact Below.refl _ _ | apply below_alloc | apply below_drew | assumption)) d4⟩)
              (first
               | (go_at_call 196; ((with_reducible refine (impl_joinedVal _ _ _).mono ?_); rintro e w' ⟨rfl, rfl⟩))
               | (go_at_call 157; ((with_reducible refine (impl_TimeJoin _ _ _ _ _).mono ?_); rintro e w5 ⟨rfl, hb⟩; have hb5 : Below W.heap.size W w5 := bthen (below_drew (Below.refl _ _)) hb; have HO5 := Aside0.mk (Kd.R_below HOd.out hb); have HB5 := Aside0.mk (bthen HB.out hb5); have hw5 := hb5.size; clear hb))
               | (refine stepRw (W := w5) (base := w.heap.size) (xs := pairsR (s.take k) t ++ jrowR x (t.take j)) (ok := fun q => q ≠ X ∧ q ≠ Y) rfl rfl rfl HO5.out (fun q hq => by first | trivial | omega) (by omega) (by rw [List.length_append]; rw [List.length_take] at hjl; omega) ?_; intro v1 w1 hr1 hb1 hg1; have HO4 := Aside0.mk hr1; have HB4 := Aside0.mk (below_more HB5.out hb1); have HG4 := Aside0.mk hg1; have HM : w1.cell? ⟨X, 0, none⟩ = some (.int .i64 x.f0) ∧ w1.cell? ⟨X, 1, none⟩ = some (.int .i64 x.f1) ∧ w1.cell? ⟨X, 2, none⟩ = some (.int .i64 x.f2.f0) ∧ w1.cell? ⟨X, 3, none⟩ = some (.int .i64 x.f2.f1) ∧ w1.cell? ⟨X, 4, none⟩ = some (.int .i64 x.f3) ∧ w1.cell? ⟨Y, 1, none⟩ = some (.int .i64 y.f1) ∧ w1.cell? ⟨Y, 2, none⟩ = some (.int .i64 y.f2.f0) ∧ w1.cell? ⟨Y, 3, none⟩ = some (.int .i64 y.f2.f1) ∧ w1.cell? ⟨Y, 4, none⟩ = some (.int .i64 y.f3) := ⟨cell_app HO5.out hg1 (pw_cell_below hb5 c0) (by first | exact Or.inl (by assumption) | exact Or.inr (fun e => e rfl) | exact Or.inr (fun e => e.1 rfl) | exact Or.inr (fun e => e.2 rfl) | exact Or.inl (Nat.lt_of_lt_of_le (by assumption) (by omega)) | exact Or.inr (by intro e; (try dsimp only at e); omega)), cell_app HO5.out hg1 (pw_cell_below hb5 c1) (by first | exact Or.inl (by assumption) | exact Or.inr (fun e => e rfl) | exact Or.inr (fun e => e.1 rfl) | exact Or.inr (fun e => e.2 rfl) | exact Or.inl (Nat.lt_of_lt_of_le (by assumption) (by omega)) | exact Or.inr (by intro e; (try dsimp only at e); omega)), cell_app HO5.out hg1 (pw_cell_below hb5 c2) (by first | exact Or.inl (by assumption) | exact Or.inr (fun e => e rfl) | exact Or.inr (fun e => e.1 rfl) | exact Or.inr (fun e => e.2 rfl) | exact Or.inl (Nat.lt_of_lt_of_le (by assumption) (by omega)) | exact Or.inr (by intro e; (try dsimp only at e); omega)), cell_app HO5.out hg1 (pw_cell_below hb5 c3) (by first | exact Or.inl (by assumption) | exact Or.inr (fun e => e rfl) | exact Or.inr (fun e => e.1 rfl) | exact Or.inr (fun e => e.2 rfl) | exact Or.inl (Nat.lt_of_lt_of_le (by assumption) (by omega)) | exact Or.inr (by intro e; (try dsimp only at e); omega)), cell_app HO5.out hg1 (pw_cell_below hb5 c4) (by first | exact Or.inl (by assumption) | exact Or.inr (fun e => e rfl) | exact Or.inr (fun e => e.1 rfl) | exact Or.inr (fun e => e.2 rfl) | exact Or.inl (Nat.lt_of_lt_of_le (by assumption) (by omega)) | exact Or.inr (by intro e; (try dsimp only at e); omega)), cell_app HO5.out hg1 (pw_cell_below hb5 d1) (by first | exact Or.inl (by assumption) | exact Or.inr (fun e => e rfl) | exact Or.inr (fun e => e.1 rfl) | exact Or.inr (fun e => e.2 rfl) | exact Or.inl (Nat.lt_of_lt_of_le (by assumption) (by omega)) | exact Or.inr (by intro e; (try dsimp only at e); omega)), cell_app HO5.out hg1 (pw_cell_below hb5 d2) (by first | exact Or.inl (by assumption) | exact Or.inr (fun e => e rfl) | exact Or.inr (fun e => e.1 rfl) | exact Or.inr (fun e => e.2 rfl) | exact Or.inl (Nat.lt_of_lt_of_le (by assumption) (by omega)) | exact Or.inr (by intro e; (try dsimp only at e); omega)), cell_app HO5.out hg1 (pw_cell_below hb5 d3) (by first | exact Or.inl (by assumption) | exact Or.inr (fun e => e rfl) | exact Or.inr (fun e => e.1 rfl) | exact Or.inr (fun e => e.2 rfl) | exact Or.inl (Nat.lt_of_lt_of_le (by assumption) (by omega)) | exact Or.inr (by intro e; (try dsimp only at e); omega)), cell_app HO5.out hg1 (pw_cell_below hb5 d4) (by first | exact Or.inl (by assumption) | exact Or.inr (fun e => e rfl) | exact Or.inr (fun e => e.1 rfl) | exact Or.inr (fun e => e.2 rfl) | exact Or.inl (Nat.lt_of_lt_of_le (by assumption) (by omega)) | exact Or.inr (by intro e; (try dsimp only at e); omega))⟩; clear hr1 hb1 hg1))
            have X4 := Aside0.mk (blk_app HO5.out HG4.out (blk_below HX0.out hb5) (fun e => e.1 rfl))
            go_wp2
            go_roundw
            case rel => exact ⟨j + 1, by omega, by go_num, ⟨by have h4 := HO4.out; rw [wrapI] at h4; rw [jrowR_snoc HY.out, if_pos (by simpa using hxy), ← List.append_assoc]; exact Kd.R_mono h4 (fun _ h => h.1)⟩, X4, HB4⟩
            case measure => simp [intOf]; omega
        · obtain rfl : j = t.length := by omega
          rw [List.take_length] at HO
          go_wp2
          go_roundw
          case rel => exact ⟨k + 1, by omega, by go_num, ⟨by rw [pairsR_snoc HX.out]; exact Kd.R_mono HO.out (fun _ _ => trivial)⟩, HB⟩
          case measure => simp [intOf]; omega
    · obtain rfl : k = s.length := by omega
      rw [List.take_length] at HO
      have hpl : (pairsR s t).length ≤ 400 * 400 := Nat.le_trans (pairsR_len t s) (Nat.mul_le_mul hl2 hl1)
      go_wp2_with (go_at_call 121; ((with_reducible refine (impl_batch _ (pairsR s t) _ (Sl.of_R HO.out) hfit.out (by omega)).mono ?_); rintro e w' ⟨u2, rfl, hr, hb⟩; have HF2 := Aside0.mk (Kd.R_lower hr HB.out.size); replace HB := Aside0.mk (bthen HB.out hb); clear hr hb))
      go_ret2
      exact BatchP.mk rfl HF2.out HB.out
set_option maxRecDepth 100000 in
set_option maxHeartbeats 2000000 in
theorem impl_FlowJoin (v v2 : Value) (l m : List Rw) (w : World) (h : Sl kRw w v l) (h2 : Sl kRw w v2 m) : Calls Try.prog 61 #[v, v2] w (RetR kRw 87 w (flowJoin l m)) := by
  have HS := Aside0.mk h
  have HT := Aside0.mk h2
  obtain ⟨A, c_, rfl, HC, hr⟩ := h
  have hm := Kd.C_max hr
  have HR := Aside0.mk hr
  clear hr
  obtain ⟨A2, c2_, rfl, HC2, hr2⟩ := h2
  have hm2 := Kd.C_max hr2
  have HR2 := Aside0.mk hr2
  clear hr2
  cases hs : rowsOk l
  · have HB := Aside0.mk (Below.refl w.heap.size w)
    go_enter Try.func61, Try.ntmps61
    go_wp2_with (go_at_call 141; ((with_reducible refine (impl_RowsOk _ l _ (HS.out.below HB.out)).mono ?_); rintro e w' ⟨rfl, hb⟩; replace HB := Aside0.mk (bthen HB.out hb); clear hb))
    go_ret
    exact RetR.mk (by rw [flowJoin, hs]; exact Kd.R_nil _ _ _ _ _) HB.out
  · cases ht : rowsOk m
    · have HB := Aside0.mk (Below.refl w.heap.size w)
      go_enter Try.func61, Try.ntmps61
      go_wp2_with (first | (go_at_call 141; ((with_reducible refine (impl_RowsOk (.slice A l.length c_) l _ (HS.out.below HB.out)).mono ?_); rintro e w' ⟨rfl, hb⟩; replace HB := Aside0.mk (bthen HB.out hb); clear hb)) | (go_at_call 141; ((with_reducible refine (impl_RowsOk (.slice A2 m.length c2_) m _ (HT.out.below HB.out)).mono ?_); rintro e w' ⟨rfl, hb⟩; replace HB := Aside0.mk (bthen HB.out hb); clear hb)))
      go_ret
      exact RetR.mk (by rw [flowJoin, hs, ht]; exact Kd.R_nil _ _ _ _ _) HB.out
    · obtain ⟨a1, a2⟩ := rowsOk_all hs
      obtain ⟨a3, a4⟩ := rowsOk_all ht
      have A2_ := Aside0.mk a2
      have A4_ := Aside0.mk a4
      clear a2 a4
      have HB := Aside0.mk (Below.refl w.heap.size w)
      go_enter Try.func61, Try.ntmps61
      go_wp2_with (first
        | (go_at_call 141; ((with_reducible refine (impl_RowsOk (.slice A l.length c_) l _ (HS.out.below HB.out)).mono ?_); rintro e w' ⟨rfl, hb⟩; replace HB := Aside0.mk (bthen HB.out hb); clear hb))
        | (go_at_call 141; ((with_reducible refine (impl_RowsOk (.slice A2 m.length c2_) m _ (HT.out.below HB.out)).mono ?_); rintro e w' ⟨rfl, hb⟩; replace HB := Aside0.mk (bthen HB.out hb); clear hb))
        | (go_at_call 148; ((with_reducible refine (impl_flowJoin _ _ l m _ (HS.out.below HB.out) (HT.out.below HB.out) A2_.out A4_.out a1 a3).mono ?_); rintro e w' ⟨u2, rfl, hr, hb⟩; have HF2 := Aside0.mk (Kd.R_lower hr HB.out.size); replace HB := Aside0.mk (bthen HB.out hb); clear hr hb)))
      go_ret
      exact RetR.mk (by rw [flowJoin, hs, ht]; exact HF2.out) HB.out
end Go.Proofs.Ythljcnlmeefcjaa.X

namespace Go.Proofs.Ythljcnlmeefcjaa.X
open Go.RowKit
set_option linter.unusedVariables false
set_option linter.unusedSimpArgs false

end Go.Proofs.Ythljcnlmeefcjaa.X

namespace Go.Proofs.Ythljcnlmeefcjaa.X
open Go.RowKit
set_option linter.unusedVariables false
set_option linter.unusedSimpArgs false

/-- rows in bounds, of which there are few copies -/
structure FewR (c : Int) (n : Nat) (l : List Rw) : Prop where
  mass : mass l ≤ c
  len : l.length ≤ n
  ok : ∀ r ∈ l, rowOk r = true
theorem FewR.append {c d : Int} {n m : Nat} {l k : List Rw} (h : FewR c n l) (g : FewR d m k) : FewR (c + d) (n + m) (l ++ k) :=
  ⟨by rw [mass_append]; have := h.mass; have := g.mass; omega, by rw [List.length_append]; have := h.len; have := g.len; omega, fun x hx => (List.mem_append.1 hx).elim (h.ok x) (g.ok x)⟩
theorem FewR.sum {c : Int} {n : Nat} {l : List Rw} (h : FewR c n l) (hc : c ≤ 99999) : FewR c n (X.sum l) := by
  have hm := h.mass
  have h1 := sum_mass (l := l) (by omega)
  have h2 := sum_len l
  refine ⟨by omega, by have := h.len; omega, fun r hr => ?_⟩
  obtain ⟨x, hx, e⟩ := sum_from r hr
  have := mass_mem hr
  exact rowOk_key e (h.ok x hx) (by omega)
theorem FewR.batch {c : Int} {n : Nat} {l : List Rw} (h : FewR c n l) (hc : c ≤ 99999) (hn : n ≤ 400) : batchOk (X.sum l) = true := batchOk_sum h.ok (by have := h.mass; omega) (by have := h.len; omega)
theorem FewR.rows {c : Int} {n : Nat} {l : List Rw} (h : FewR c n l) (hn : n ≤ 400) : rowsOk l = true := by
  unfold rowsOk; rw [decide_eq_true (show l.length ≤ 400 by have := h.len; omega), Bool.and_true, List.all_eq_true]; exact h.ok
theorem FewR.fit {c : Int} {n : Nat} {l : List Rw} (h : FewR c n l) (hc : c ≤ 99999) (hn : n ≤ 400) : X.fit (X.sum l) = X.sum l := fit_yes (h.batch hc hn)
theorem shR_append (φ : Wt) (s t : List Rw) : sg (sh φ) (s ++ t) = sg (sh φ) s + sg (sh φ) t := sg_append _ _ _
theorem sh_present (ψ : Int → Int → Int) (l : List Rw) (t : Tm) : sg (shI ψ) (presentOf l t) = sg (sh fun a b c => if below c t = true then ψ a b else 0) l := by
  unfold presentOf
  rw [sh_itemOf, sg_filter]
  refine sg_congr fun x _ => ?_
  unfold sh
  by_cases h : below x.f2 t = true <;> simp [h]
theorem mass_presentOf (l : List Rw) (t : Tm) : massI (presentOf l t) ≤ mass l := by
  unfold presentOf
  rw [mass_itemOf]
  unfold mass
  rw [sg_filter]
  exact sg_le fun x _ => by split <;> omega
end Go.Proofs.Ythljcnlmeefcjaa.X

namespace Go.Proofs.Ythljcnlmeefcjaa.X
open Go.RowKit
set_option linter.unusedVariables false
set_option linter.unusedSimpArgs false

/-- a weight that counts what is not later than a time -/
def upW (t : Tm) (ψ : Int → Int → Int) : Wt := fun a b c => if below c t = true then ψ a b else 0
theorem sh_present' (ψ : Int → Int → Int) (l : List Rw) (t : Tm) : sg (shI ψ) (presentOf l t) = sg (sh (upW t ψ)) l := sh_present ψ l t
theorem batchAt_nil (t : Tm) : batchAt [] t = [] := by unfold batchAt; split <;> rfl
theorem below_join {c d t : Tm} (hc : tOk c = true) (hd : tOk d = true) : below (tJoin c d) t = (below c t && below d t) := by
  unfold tJoin; rw [hc, hd]
  simp only [Bool.and_self, if_true, below, tmax]
  rw [Bool.eq_iff_iff]
  simp only [Bool.and_eq_true, decide_eq_true_eq]
  split <;> split <;> omega
end Go.Proofs.Ythljcnlmeefcjaa.X

