/- The walks of flows, and what holds of rows, plainly. Conditions: none. -/
import Derived.Test.YthljcnlmeefcjaaYMSb
import Derived.Test.YthljcnlmeefcjaaYCPl
import Derived.Test.YthljcnlmeefcjaaYMPl
import Derived.Test.YthljcnlmeefcjaaYMDr
namespace Go.Proofs.Ythljcnlmeefcjaa.X
open Go.RowKit Go.Proofs.YthljcnlmeefcjaaW.PrintWords
set_option linter.unusedVariables false
set_option linter.unusedSimpArgs false

def eachR (how : Int) (r : Rw) : List Rw := match eachKV r.f0 r.f1 how with | some (a, b) => [⟨a, b, r.f2, r.f3⟩] | none => []
theorem eachR_3 {r : Rw} {how : Int} (h0 : 1 ≤ how) (h1 : how ≤ 7) : eachR how r = if (each3 r.f0 r.f1 how).2.2 = true then [⟨(each3 r.f0 r.f1 how).1, (each3 r.f0 r.f1 how).2.1, r.f2, r.f3⟩] else [] := by
  unfold eachR; rw [each3_kv h0 h1]
  cases (each3 r.f0 r.f1 how).2.2 <;> simp
theorem eachR_len (how : Int) (l : List Rw) : (l.flatMap (eachR how)).length ≤ l.length := by
  have := len_flatMap (c := 1) (s := l) (g := eachR how) (fun r _ => by unfold eachR; cases eachKV r.f0 r.f1 how with | none => simp | some p => obtain ⟨a, b⟩ := p; simp)
  omega
theorem eachR_take (how : Int) (l : List Rw) (k : Nat) : ((l.take k).flatMap (eachR how)).length ≤ k := Nat.le_trans (eachR_len how _) (by rw [List.length_take]; omega)
/-- a mapped row is a row -/
theorem eachR_ok {how : Int} {l : List Rw} (h : ∀ r ∈ l, rowOk r = true) : ∀ r ∈ l.flatMap (eachR how), rowOk r = true := fun y hy => by
  obtain ⟨r, hr, hy⟩ := List.mem_flatMap.1 hy
  have hk := rowOk_in (h r hr)
  unfold eachR at hy
  cases he : eachKV r.f0 r.f1 how with
  | none => rw [he] at hy; cases hy
  | some p =>
    obtain ⟨a, b⟩ := p
    rw [he] at hy
    rw [List.mem_singleton.1 hy]
    have := eachKV_ok hk.1.1 hk.1.2 hk.2.1.1 hk.2.1.2 he
    simp only [rowOk, tOk, Bool.and_eq_true, decide_eq_true_eq]; omega
def flowEach (l : List Rw) (how : Int) : List Rw := if rowsOk l && decide (1 ≤ how) && decide (how ≤ 7) then fit (sum (l.flatMap (eachR how))) else []
set_option maxRecDepth 100000 in
set_option maxHeartbeats 4000000 in
theorem impl_flowEach (v : Value) (l : List Rw) (how : Int) (w : World) (h : Sl kRw w v l) (hall0 : ∀ r ∈ l, rowOk r = true) (hl : l.length ≤ 1000) (g0 : 1 ≤ how) (g1 : how ≤ 7) : Calls Try.prog 143 #[v, .int .i64 how] w (BatchP w (sum (l.flatMap (eachR how)))) := by
  obtain ⟨A, c_, rfl, HC, hr⟩ := h
  have hm := Kd.C_max hr
  have HR := Aside0.mk hr
  clear hr
  have hall := Aside0.mk hall0
  have hfit := Aside0.mk (rowsOk_fit (eachR_ok (how := how) hall0))
  clear hall0
  have HB := Aside0.mk (Below.refl w.heap.size w)
  go_enter Try.func143, Try.ntmps143
  go_wp2
  go_loopw [6, 15] (fun o i wr => ∃ (k : Nat), k ≤ l.length ∧ i = .int .i64 k ∧ Aside0 (kRw.R 87 wr w.heap.size okT o ((l.take k).flatMap (eachR how))) ∧ Aside0 (Below w.heap.size w wr)) (fun _ i _ => l.length - (intOf i).toNat)
  case atStart => exact ⟨0, Nat.zero_le _, rfl, ⟨R_none (blk_new w _) (Nat.le_refl _) trivial⟩, ⟨below_alloc HB.out _⟩⟩
  case round =>
    clear HB
    obtain ⟨k, hk, rfl, HO, HB⟩ := hrel
    by_cases hlt : k < l.length
    · obtain ⟨ad, x, e, HX, h0, h1, h2, h3, h4⟩ := rdRw HR.out HB.out hlt
      cases e
      have hws := HB.out.size
      have hpl := eachR_take how l k
      have hx := rowOk_in (hall.out x (List.mem_of_getElem? HX.out))
      cases hkp : (each3 x.f0 x.f1 how).2.2
      · have HK := Aside0.mk hkp
        go_wp2_with (go_at_call 191; ((with_reducible refine (impl_each x.f0 x.f1 how hx.1.1 hx.1.2 hx.2.1.1 hx.2.1.2 g0 g1 _).mono ?_); rintro e w' ⟨rfl, rfl⟩))
        go_roundw
        case rel => exact ⟨k + 1, by omega, by go_num, ⟨by rw [fm_snoc HX.out, eachR_3 g0 g1, HK.out]; simpa using Kd.R_alloc HO.out _⟩, ⟨below_alloc HB.out _⟩⟩
        case measure => simp [intOf]; omega
      · have HK := Aside0.mk hkp
        go_upto_region 7 with (go_at_call 191; ((with_reducible refine (impl_each x.f0 x.f1 how hx.1.1 hx.1.2 hx.2.1.1 hx.2.1.2 g0 g1 _).mono ?_); rintro e w' ⟨rfl, rfl⟩))
        refine name_world fun W hW => ?_
        have B0 : W.heap[wr.heap.size]? = some (.cells #[.int .i64 x.f0, .int .i64 x.f1, .int .i64 x.f2.f0, .int .i64 x.f2.f1, .int .i64 x.f3] 87 (0, 0)) := by rw [hW]; exact blk_new wr _
        have hb1 : Below wr.heap.size wr W := by rw [hW]; repeat (first | exact Below.refl _ _ | apply below_alloc | refine below_set ?_ (by simp))
        clear hW
        generalize hX : wr.heap.size = X at B0 ⊢
        replace HB := Aside0.mk (bthen HB.out hb1)
        have HO1 := Aside0.mk (Kd.R_below HO.out hb1)
        have b2 : W.cell? ⟨X, 2, none⟩ = some (.int .i64 x.f2.f0) := blk_cell B0 2
        have b3 : W.cell? ⟨X, 3, none⟩ = some (.int .i64 x.f2.f1) := blk_cell B0 3
        have b4 : W.cell? ⟨X, 4, none⟩ = some (.int .i64 x.f3) := blk_cell B0 4
        clear h0 h1 h2 h3 h4 hb1 hX HO
        go_wp2_with (at_builtin; refine appRw (w0 := w) (base := w.heap.size) (xs := (l.take k).flatMap (eachR how)) (ok := okT) rfl rfl rfl HO1.out (fun _ _ => trivial) HB.out (by have := HB.out.size; omega) (by omega) ?_; intro v1 w1 hr1 hb1 hg1 ha1; have HO2 := Aside0.mk hr1; have HG_ := Aside0.mk hg1; replace HB := Aside0.mk hb1; clear hr1 hb1 hg1 ha1)
        go_roundw
        case rel => exact ⟨k + 1, by omega, by go_num, ⟨by rw [fm_snoc HX.out, eachR_3 g0 g1, HK.out]; exact HO2.out⟩, HB⟩
        case measure => simp [intOf]; omega
    · obtain rfl : k = l.length := by omega
      rw [List.take_length] at HO
      have hpl := eachR_len how l
      go_wp2_with (go_at_call 121; ((with_reducible refine (impl_batch _ (l.flatMap (eachR how)) _ (Sl.of_R HO.out) hfit.out (by omega)).mono ?_); rintro e w' ⟨u2, rfl, hr, hb⟩; have HF2 := Aside0.mk (Kd.R_lower hr HB.out.size); replace HB := Aside0.mk (bthen HB.out hb); clear hr hb))
      go_ret2
      exact BatchP.mk rfl HF2.out HB.out
set_option maxRecDepth 100000 in
set_option maxHeartbeats 2000000 in
theorem impl_FlowEach (v : Value) (l : List Rw) (how : Int) (w : World) (h : Sl kRw w v l) : Calls Try.prog 56 #[v, .int .i64 how] w (RetR kRw 87 w (flowEach l how)) := by
  have HS := Aside0.mk h
  cases hs : rowsOk l
  · have HB := Aside0.mk (Below.refl w.heap.size w)
    go_enter Try.func56, Try.ntmps56
    go_wp2_with (go_at_call 141; ((with_reducible refine (impl_RowsOk _ l _ (HS.out.below HB.out)).mono ?_); rintro e w' ⟨rfl, hb⟩; replace HB := Aside0.mk (bthen HB.out hb); clear hb))
    go_ret
    exact RetR.mk (by rw [flowEach, hs]; exact Kd.R_nil _ _ _ _ _) HB.out
  · cases hh : (decide (1 ≤ how) && decide (how ≤ 7))
    · have HB := Aside0.mk (Below.refl w.heap.size w)
      go_enter Try.func56, Try.ntmps56
      go_wp2_with (first | (go_at_call 141; ((with_reducible refine (impl_RowsOk _ l _ (HS.out.below HB.out)).mono ?_); rintro e w' ⟨rfl, hb⟩; replace HB := Aside0.mk (bthen HB.out hb); clear hb)) | (go_at_call 142; ((with_reducible refine (impl_howOk _ _).mono ?_); rintro e w' ⟨rfl, rfl⟩)))
      go_ret
      exact RetR.mk (by rw [flowEach, hs, Bool.true_and, hh]; exact Kd.R_nil _ _ _ _ _) HB.out
    · have hh2 := hh
      simp only [Bool.and_eq_true, decide_eq_true_eq] at hh2
      obtain ⟨g0, g1⟩ := hh2
      obtain ⟨a1, a2⟩ := rowsOk_all hs
      have A2 := Aside0.mk a2
      have HH := Aside0.mk hh
      clear a2
      have HB := Aside0.mk (Below.refl w.heap.size w)
      go_enter Try.func56, Try.ntmps56
      go_wp2_with (first | (go_at_call 141; ((with_reducible refine (impl_RowsOk _ l _ (HS.out.below HB.out)).mono ?_); rintro e w' ⟨rfl, hb⟩; replace HB := Aside0.mk (bthen HB.out hb); clear hb)) | (go_at_call 142; ((with_reducible refine (impl_howOk _ _).mono ?_); rintro e w' ⟨rfl, rfl⟩)) | (go_at_call 143; ((with_reducible refine (impl_flowEach _ l how _ (HS.out.below HB.out) A2.out (by omega) g0 g1).mono ?_); rintro e w' ⟨u2, rfl, hr, hb⟩; have HF2 := Aside0.mk (Kd.R_lower hr HB.out.size); replace HB := Aside0.mk (bthen HB.out hb); clear hr hb)))
      go_ret
      exact RetR.mk (by rw [flowEach, hs, Bool.true_and, HH.out]; exact HF2.out) HB.out
end Go.Proofs.Ythljcnlmeefcjaa.X

namespace Go.Proofs.Ythljcnlmeefcjaa.X
open Go.RowKit Go.Proofs.YthljcnlmeefcjaaW.PrintWords
set_option linter.unusedVariables false
set_option linter.unusedSimpArgs false

def pairR (x y : Rw) : Rw := ⟨x.f0, jval x.f1 y.f1, tJoin x.f2 y.f2, wrap64 (x.f3 * y.f3)⟩
def jrowR (x : Rw) (t : List Rw) : List Rw := (t.filter fun y => decide (x.f0 = y.f0)).map (pairR x)
def pairsR (s t : List Rw) : List Rw := s.flatMap fun x => jrowR x t
def flowJoin (l m : List Rw) : List Rw := if rowsOk l && rowsOk m then fit (sum (pairsR l m)) else []
theorem pairsR_snoc {s : List Rw} {k : Nat} {x : Rw} (hx : s[k]? = some x) (t : List Rw) : pairsR (s.take (k + 1)) t = pairsR (s.take k) t ++ jrowR x t := by
  rw [take_snoc hx]; unfold pairsR; rw [List.flatMap_append]; simp
theorem jrowR_snoc {t : List Rw} {k : Nat} {y : Rw} (hy : t[k]? = some y) (x : Rw) : jrowR x (t.take (k + 1)) = jrowR x (t.take k) ++ (if x.f0 = y.f0 then [pairR x y] else []) := by
  rw [take_snoc hy]; unfold jrowR; rw [List.filter_append, List.map_append]
  by_cases h : x.f0 = y.f0 <;> simp [h]
theorem jrowR_len (x : Rw) (t : List Rw) : (jrowR x t).length ≤ t.length := by unfold jrowR; rw [List.length_map]; exact List.length_filter_le _ _
theorem pairsR_len (t : List Rw) : ∀ s : List Rw, (pairsR s t).length ≤ t.length * s.length := fun s => len_flatMap fun x _ => jrowR_len x t
theorem tJoin_in {s t : Tm} (hs : tOk s = true) (ht : tOk t = true) : tOk (tJoin s t) = true := by
  unfold tJoin; rw [hs, ht]
  simp only [tOk, Bool.and_eq_true, decide_eq_true_eq] at hs ht
  simp only [Bool.and_self, if_true, tOk, tmax, Bool.and_eq_true, decide_eq_true_eq]
  split <;> split <;> omega
/-- what a pair of rows in bounds is -/
theorem pairR_in {x y : Rw} (hx : rowOk x = true) (hy : rowOk y = true) : 0 ≤ (pairR x y).f0 ∧ (pairR x y).f0 ≤ 3 ∧ 0 ≤ (pairR x y).f1 ∧ (pairR x y).f1 ≤ 99 ∧ tOk (pairR x y).f2 = true ∧ (pairR x y).f3 = x.f3 * y.f3 ∧ (((pairR x y).f3).natAbs : Int) ≤ 9999800001 := by
  have a := rowOk_in hx
  have b := rowOk_in hy
  have hm : ((x.f3 * y.f3).natAbs : Int) ≤ 9999800001 := by
    rw [Int.natAbs_mul]
    have h1 : x.f3.natAbs ≤ 99999 := by omega
    have h2 : y.f3.natAbs ≤ 99999 := by omega
    have := Nat.mul_le_mul h1 h2
    omega
  have hw : wrap64 (x.f3 * y.f3) = x.f3 * y.f3 := wrap_abs (by omega)
  have ht : tOk (tJoin x.f2 y.f2) = true := tJoin_in (by simp only [rowOk, Bool.and_eq_true] at hx; exact hx.1.1.2) (by simp only [rowOk, Bool.and_eq_true] at hy; exact hy.1.1.2)
  have hj := jval_eq a.2.1.1 a.2.1.2 b.2.1.1 b.2.1.2
  unfold pairR
  simp only
  rw [hw, hj]
  exact ⟨a.1.1, a.1.2, by omega, by omega, ht, rfl, hm⟩
theorem pairsR_fit {s t : List Rw} (hs : ∀ r ∈ s, rowOk r = true) (ht : ∀ r ∈ t, rowOk r = true) : RwFit (pairsR s t) := RwFit.of fun z hz => by
  obtain ⟨x, hx, hz⟩ := List.mem_flatMap.1 hz
  obtain ⟨y, hy, rfl⟩ := List.mem_map.1 hz
  obtain ⟨h0, h1, h2, h3, h4, h5, h6⟩ := pairR_in (hs x hx) (ht y (List.mem_filter.1 hy).1)
  simp only [tOk, Bool.and_eq_true, decide_eq_true_eq] at h4
  omega
set_option maxRecDepth 100000 in
set_option maxHeartbeats 4000000 in
theorem impl_flowJoin (v v2 : Value) (s t : List Rw) (w : World) (h : Sl kRw w v s) (h2 : Sl kRw w v2 t) (hs0 : ∀ r ∈ s, rowOk r = true) (ht0 : ∀ r ∈ t, rowOk r = true) (hl1 : s.length ≤ 400) (hl2 : t.length ≤ 400) : Calls Try.prog 148 #[v, v2] w (BatchP w (sum (pairsR s t))) := by
  obtain ⟨A, c_, rfl, HC, hr⟩ := h
  have hm := Kd.C_max hr
  have HR := Aside0.mk hr
  clear hr
  obtain ⟨A2, c2_, rfl, HC2, hr2⟩ := h2
  have hm2 := Kd.C_max hr2
  have HR2 := Aside0.mk hr2
  clear hr2
  have hfit := Aside0.mk (pairsR_fit hs0 ht0)
  clear hs0 ht0
  have HB := Aside0.mk (Below.refl w.heap.size w)
  go_enter Try.func148, Try.ntmps148
  go_wp2
  go_loopw [6, 14] (fun o i wr => ∃ (k : Nat), k ≤ s.length ∧ i = .int .i64 k ∧ Aside0 (kRw.R 87 wr w.heap.size okT o (pairsR (s.take k) t)) ∧ Aside0 (Below w.heap.size w wr)) (fun _ i _ => s.length - (intOf i).toNat)
  case atStart => exact ⟨0, Nat.zero_le _, rfl, ⟨R_none (blk_new w _) (Nat.le_refl _) trivial⟩, ⟨below_alloc HB.out _⟩⟩
  case round =>
    clear HB
    obtain ⟨k, hk, rfl, HO, HB⟩ := hrel
    by_cases hlt : k < s.length
    · obtain ⟨ad, x, e, HX, h0, h1, h2, h3, h4⟩ := rdRw HR.out HB.out hlt
      cases e
      have hws := HB.out.size
      have hpl : (pairsR (s.take k) t).length ≤ 400 * 400 := Nat.le_trans (pairsR_len t (s.take k)) (Nat.mul_le_mul hl2 (by rw [List.length_take]; omega))
      go_upto_region 5 with fail
      refine name_world fun W1 hW => ?_
      have B0 : W1.heap[wr.heap.size]? = some (.cells #[.int .i64 x.f0, .int .i64 x.f1, .int .i64 x.f2.f0, .int .i64 x.f2.f1, .int .i64 x.f3] 87 (0, 0)) := by rw [hW]; exact blk_new wr _
      have hb1 : Below wr.heap.size wr W1 := by rw [hW]; repeat (first | exact Below.refl _ _ | apply below_alloc | refine below_set ?_ (by simp))
      clear hW
      generalize hX : wr.heap.size = X at B0 ⊢
      replace HB := Aside0.mk (bthen HB.out hb1)
      have HO1 := Aside0.mk (Kd.R_below (R_new (ok' := fun q => q ≠ X) HO.out (X := X) (by omega) (fun q _ h2 => by omega)) hb1)
      have hXw : w.heap.size ≤ X := by omega
      clear h0 h1 h2 h3 h4 hb1 hX HO
      go_wp2
      go_loopw [6, 20] (fun o i wq => ∃ (j : Nat), j ≤ t.length ∧ i = .int .i64 j ∧ Aside0 (kRw.R 87 wq w.heap.size (fun q => q ≠ X) o (pairsR (s.take k) t ++ jrowR x (t.take j))) ∧ Aside0 (wq.heap[X]? = some (.cells #[.int .i64 x.f0, .int .i64 x.f1, .int .i64 x.f2.f0, .int .i64 x.f2.f1, .int .i64 x.f3] 87 (0, 0))) ∧ Aside0 (Below w.heap.size w wq)) (fun _ i _ => t.length - (intOf i).toNat)
      case atStart => exact ⟨0, Nat.zero_le _, rfl, ⟨by simpa [jrowR] using HO1.out⟩, ⟨B0⟩, HB⟩
      case round =>
        clear HO1 HB B0
        obtain ⟨j, hj, rfl, HO, HB0, HB⟩ := hrel
        by_cases hlt2 : j < t.length
        · obtain ⟨ad2, y, e, HY, i0, i1, i2, i3, i4⟩ := rdRw HR2.out HB.out hlt2
          cases e
          have hwq := HB.out.size
          have hjl := jrowR_len x (t.take j)
          have b0 : wr.cell? ⟨X, 0, none⟩ = some (.int .i64 x.f0) := blk_cell HB0.out 0
          have hXl := blk_lt HB0.out
          cases hxy : (x.f0 == y.f0)
          · go_wp2
            go_roundw
            case rel => exact ⟨j + 1, by omega, by go_num, ⟨by rw [jrowR_snoc HY.out, if_neg (by simpa using hxy), List.append_nil]; exact Kd.R_alloc HO.out _⟩, ⟨blk_alloc HB0.out _⟩, ⟨below_alloc HB.out _⟩⟩
            case measure => simp [intOf]; omega
          · go_wp2
            refine name_world fun W hW => ?_
            have B1 : W.heap[wr.heap.size]? = some (.cells #[.int .i64 y.f0, .int .i64 y.f1, .int .i64 y.f2.f0, .int .i64 y.f2.f1, .int .i64 y.f3] 87 (0, 0)) := by rw [hW]; exact blk_new wr _
            have hb1 : Below wr.heap.size wr W := by rw [hW]; repeat (first | exact Below.refl _ _ | apply below_alloc | refine below_set ?_ (by simp))
            clear hW
            generalize hY : wr.heap.size = Y at B1 ⊢
            have HX0 := Aside0.mk (blk_below HB0.out hb1)
            have HO1 := Aside0.mk (Kd.R_below (R_new (ok' := fun q => q ≠ X ∧ q ≠ Y) HO.out (X := Y) (by omega) (fun q h1 h2 => ⟨h1, by omega⟩)) hb1)
            replace HB := Aside0.mk (bthen HB.out hb1)
            have hW0 := HB.out.size
            have hYl := blk_lt B1
            have hXW := blk_lt HX0.out
            clear b0 i0 i1 i2 i3 i4 hb1 HO hY HB0
            have c0 : W.cell? ⟨X, 0, none⟩ = some (.int .i64 x.f0) := blk_cell HX0.out 0
            have c1 : W.cell? ⟨X, 1, none⟩ = some (.int .i64 x.f1) := blk_cell HX0.out 1
            have c2 : W.cell? ⟨X, 2, none⟩ = some (.int .i64 x.f2.f0) := blk_cell HX0.out 2
            have c3 : W.cell? ⟨X, 3, none⟩ = some (.int .i64 x.f2.f1) := blk_cell HX0.out 3
            have c4 : W.cell? ⟨X, 4, none⟩ = some (.int .i64 x.f3) := blk_cell HX0.out 4
            have d1 : W.cell? ⟨Y, 1, none⟩ = some (.int .i64 y.f1) := blk_cell B1 1
            have d2 : W.cell? ⟨Y, 2, none⟩ = some (.int .i64 y.f2.f0) := blk_cell B1 2
            have d3 : W.cell? ⟨Y, 3, none⟩ = some (.int .i64 y.f2.f1) := blk_cell B1 3
            have d4 : W.cell? ⟨Y, 4, none⟩ = some (.int .i64 y.f3) := blk_cell B1 4
            have HOd := Aside0.mk (R_drew HO1.out)
            go_region_held3 (fun w' => w'.cell? ⟨X, 0, none⟩ = some (.int .i64 x.f0) ∧ w'.cell? ⟨X, 1, none⟩ = some (.int .i64 x.f1) ∧ w'.cell? ⟨X, 2, none⟩ = some (.int .i64 x.f2.f0) ∧ w'.cell? ⟨X, 3, none⟩ = some (.int .i64 x.f2.f1) ∧ w'.cell? ⟨X, 4, none⟩ = some (.int .i64 x.f3) ∧ w'.cell? ⟨Y, 1, none⟩ = some (.int .i64 y.f1) ∧ w'.cell? ⟨Y, 2, none⟩ = some (.int .i64 y.f2.f0) ∧ w'.cell? ⟨Y, 3, none⟩ = some (.int .i64 y.f2.f1) ∧ w'.cell? ⟨Y, 4, none⟩ = some (.int .i64 y.f3)) (first | exact ⟨c0, c1, c2, c3, c4, d1, d2, d3, d4⟩ | exact HM | exact ⟨pw_cell_below hb5 c0, pw_cell_below hb5 c1, pw_cell_below hb5 c2, pw_cell_below hb5 c3, pw_cell_below hb5 c4, pw_cell_below hb5 d1, pw_cell_below hb5 d2, pw_cell_below hb5 d3, pw_cell_below hb5 d4⟩ | exact ⟨pw_cell_below (by repeat (first | exact Below.refl _ _ | apply below_alloc | apply below_drew | assumption)) c0, pw_cell_below (by repeat (first | exact Below.refl _ _ | apply below_alloc | apply below_drew | assumption)) c1, pw_cell_below (by repeat (first | exact Below.refl _ _ | apply below_alloc | apply below_drew | assumption)) c2, pw_cell_below (by repeat (first | exact Below.refl _ _ | apply below_alloc | apply below_drew | assumption)) c3, pw_cell_below (by repeat (first | exact Below.refl _ _ | apply below_alloc | apply below_drew | assumption)) c4, pw_cell_below (by repeat (first | exact Below.refl _ _ | apply below_alloc | apply below_drew | assumption)) d1, pw_cell_below (by repeat (first | exact Below.refl _ _ | apply below_alloc | apply below_drew | assumption)) d2, pw_cell_below (by repeat (first | exact Below.refl _ _ | apply below_alloc | apply below_drew | assumption)) d3, pw_cell_below (by repeat (first | exact Below.refl _ _ | apply below_alloc | apply below_drew | assumption)) d4⟩)
              (first
               | (go_at_call 196; ((with_reducible refine (impl_joinedVal _ _ _).mono ?_); rintro e w' ⟨rfl, rfl⟩))
               | (go_at_call 157; ((with_reducible refine (impl_TimeJoin _ _ _ _ _).mono ?_); rintro e w5 ⟨rfl, hb⟩; have hb5 : Below W.heap.size W w5 := bthen (below_drew (Below.refl _ _)) hb; have HO5 := Aside0.mk (Kd.R_below HOd.out hb); have HB5 := Aside0.mk (bthen HB.out hb5); have hw5 := hb5.size; clear hb))
               | (refine stepRw (W := w5) (base := w.heap.size) (xs := pairsR (s.take k) t ++ jrowR x (t.take j)) (ok := fun q => q ≠ X ∧ q ≠ Y) rfl rfl rfl HO5.out (fun q hq => by first | trivial | omega) (by omega) (by rw [List.length_append]; rw [List.length_take] at hjl; omega) ?_; intro v1 w1 hr1 hb1 hg1; have HO4 := Aside0.mk hr1; have HB4 := Aside0.mk (below_more HB5.out hb1); have HG4 := Aside0.mk hg1; have HM : w1.cell? ⟨X, 0, none⟩ = some (.int .i64 x.f0) ∧ w1.cell? ⟨X, 1, none⟩ = some (.int .i64 x.f1) ∧ w1.cell? ⟨X, 2, none⟩ = some (.int .i64 x.f2.f0) ∧ w1.cell? ⟨X, 3, none⟩ = some (.int .i64 x.f2.f1) ∧ w1.cell? ⟨X, 4, none⟩ = some (.int .i64 x.f3) ∧ w1.cell? ⟨Y, 1, none⟩ = some (.int .i64 y.f1) ∧ w1.cell? ⟨Y, 2, none⟩ = some (.int .i64 y.f2.f0) ∧ w1.cell? ⟨Y, 3, none⟩ = some (.int .i64 y.f2.f1) ∧ w1.cell? ⟨Y, 4, none⟩ = some (.int .i64 y.f3) := ⟨cell_app HO5.out hg1 (pw_cell_below hb5 c0) (by first | exact Or.inl (by assumption) | exact Or.inr (fun e => e rfl) | exact Or.inr (fun e => e.1 rfl) | exact Or.inr (fun e => e.2 rfl) | exact Or.inl (Nat.lt_of_lt_of_le (by assumption) (by omega)) | exact Or.inr (by intro e; (try dsimp only at e); omega)), cell_app HO5.out hg1 (pw_cell_below hb5 c1) (by first | exact Or.inl (by assumption) | exact Or.inr (fun e => e rfl) | exact Or.inr (fun e => e.1 rfl) | exact Or.inr (fun e => e.2 rfl) | exact Or.inl (Nat.lt_of_lt_of_le (by assumption) (by omega)) | exact Or.inr (by intro e; (try dsimp only at e); omega)), cell_app HO5.out hg1 (pw_cell_below hb5 c2) (by first | exact Or.inl (by assumption) | exact Or.inr (fun e => e rfl) | exact Or.inr (fun e => e.1 rfl) | exact Or.inr (fun e => e.2 rfl) | exact Or.inl (Nat.lt_of_lt_of_le (by assumption) (by omega)) | exact Or.inr (by intro e; (try dsimp only at e); omega)), cell_app HO5.out hg1 (pw_cell_below hb5 c3) (by first | exact Or.inl (by assumption) | exact Or.inr (fun e => e rfl) | exact Or.inr (fun e => e.1 rfl) | exact Or.inr (fun e => e.2 rfl) | exact Or.inl (Nat.lt_of_lt_of_le (by assumption) (by omega)) | exact Or.inr (by intro e; (try dsimp only at e); omega)), cell_app HO5.out hg1 (pw_cell_below hb5 c4) (by first | exact Or.inl (by assumption) | exact Or.inr (fun e => e rfl) | exact Or.inr (fun e => e.1 rfl) | exact Or.inr (fun e => e.2 rfl) | exact Or.inl (Nat.lt_of_lt_of_le (by assumption) (by omega)) | exact Or.inr (by intro e; (try dsimp only at e); omega)), cell_app HO5.out hg1 (pw_cell_below hb5 d1) (by first | exact Or.inl (by assumption) | exact Or.inr (fun e => e rfl) | exact Or.inr (fun e => e.1 rfl) | exact Or.inr (fun e => e.2 rfl) | exact Or.inl (Nat.lt_of_lt_of_le (by assumption) (by omega)) | exact Or.inr (by intro e; (try dsimp only at e); omega)), cell_app HO5.out hg1 (pw_cell_below hb5 d2) (by first | exact Or.inl (by assumption) | exact Or.inr (fun e => e rfl) | exact Or.inr (fun e => e.1 rfl) | exact Or.inr (fun e => e.2 rfl) | exact Or.inl (Nat.lt_of_lt_of_le (by assumption) (by omega)) | exact Or.inr (by intro e; (try dsimp only at e); omega)), cell_app HO5.out hg1 (pw_cell_below hb5 d3) (by first | exact Or.inl (by assumption) | exact Or.inr (fun e => e rfl) | exact Or.inr (fun e => e.1 rfl) | exact Or.inr (fun e => e.2 rfl) | exact Or.inl (Nat.lt_of_lt_of_le (by assumption) (by omega)) | exact Or.inr (by intro e; (try dsimp only at e); omega)), cell_app HO5.out hg1 (pw_cell_below hb5 d4) (by first | exact Or.inl (by assumption) | exact Or.inr (fun e => e rfl) | exact Or.inr (fun e => e.1 rfl) | exact Or.inr (fun e => e.2 rfl) | exact Or.inl (Nat.lt_of_lt_of_le (by assumption) (by omega)) | exact Or.inr (by intro e; (try dsimp only at e); omega))⟩; clear hr1 hb1 hg1))
            have X4 := Aside0.mk (blk_app HO5.out HG4.out (blk_below HX0.out hb5) (fun e => e.1 rfl))
            go_wp2
            go_roundw
            case rel => exact ⟨j + 1, by omega, by go_num, ⟨by have h4 := HO4.out; rw [wrapI] at h4; rw [jrowR_snoc HY.out, if_pos (by simpa using hxy), ← List.append_assoc]; exact Kd.R_mono h4 (fun _ h => h.1)⟩, X4, HB4⟩
            case measure => simp [intOf]; omega
        · obtain rfl : j = t.length := by omega
          rw [List.take_length] at HO
          go_wp2
          go_roundw
          case rel => exact ⟨k + 1, by omega, by go_num, ⟨by rw [pairsR_snoc HX.out]; exact Kd.R_mono HO.out (fun _ _ => trivial)⟩, HB⟩
          case measure => simp [intOf]; omega
    · obtain rfl : k = s.length := by omega
      rw [List.take_length] at HO
      have hpl : (pairsR s t).length ≤ 400 * 400 := Nat.le_trans (pairsR_len t s) (Nat.mul_le_mul hl2 hl1)
      go_wp2_with (go_at_call 121; ((with_reducible refine (impl_batch _ (pairsR s t) _ (Sl.of_R HO.out) hfit.out (by omega)).mono ?_); rintro e w' ⟨u2, rfl, hr, hb⟩; have HF2 := Aside0.mk (Kd.R_lower hr HB.out.size); replace HB := Aside0.mk (bthen HB.out hb); clear hr hb))
      go_ret2
      exact BatchP.mk rfl HF2.out HB.out
set_option maxRecDepth 100000 in
set_option maxHeartbeats 2000000 in
theorem impl_FlowJoin (v v2 : Value) (l m : List Rw) (w : World) (h : Sl kRw w v l) (h2 : Sl kRw w v2 m) : Calls Try.prog 61 #[v, v2] w (RetR kRw 87 w (flowJoin l m)) := by
  have HS := Aside0.mk h
  have HT := Aside0.mk h2
  obtain ⟨A, c_, rfl, HC, hr⟩ := h
  have hm := Kd.C_max hr
  have HR := Aside0.mk hr
  clear hr
  obtain ⟨A2, c2_, rfl, HC2, hr2⟩ := h2
  have hm2 := Kd.C_max hr2
  have HR2 := Aside0.mk hr2
  clear hr2
  cases hs : rowsOk l
  · have HB := Aside0.mk (Below.refl w.heap.size w)
    go_enter Try.func61, Try.ntmps61
    go_wp2_with (go_at_call 141; ((with_reducible refine (impl_RowsOk _ l _ (HS.out.below HB.out)).mono ?_); rintro e w' ⟨rfl, hb⟩; replace HB := Aside0.mk (bthen HB.out hb); clear hb))
    go_ret
    exact RetR.mk (by rw [flowJoin, hs]; exact Kd.R_nil _ _ _ _ _) HB.out
  · cases ht : rowsOk m
    · have HB := Aside0.mk (Below.refl w.heap.size w)
      go_enter Try.func61, Try.ntmps61
      go_wp2_with (first | (go_at_call 141; ((with_reducible refine (impl_RowsOk (.slice A l.length c_) l _ (HS.out.below HB.out)).mono ?_); rintro e w' ⟨rfl, hb⟩; replace HB := Aside0.mk (bthen HB.out hb); clear hb)) | (go_at_call 141; ((with_reducible refine (impl_RowsOk (.slice A2 m.length c2_) m _ (HT.out.below HB.out)).mono ?_); rintro e w' ⟨rfl, hb⟩; replace HB := Aside0.mk (bthen HB.out hb); clear hb)))
      go_ret
      exact RetR.mk (by rw [flowJoin, hs, ht]; exact Kd.R_nil _ _ _ _ _) HB.out
    · obtain ⟨a1, a2⟩ := rowsOk_all hs
      obtain ⟨a3, a4⟩ := rowsOk_all ht
      have A2_ := Aside0.mk a2
      have A4_ := Aside0.mk a4
      clear a2 a4
      have HB := Aside0.mk (Below.refl w.heap.size w)
      go_enter Try.func61, Try.ntmps61
      go_wp2_with (first
        | (go_at_call 141; ((with_reducible refine (impl_RowsOk (.slice A l.length c_) l _ (HS.out.below HB.out)).mono ?_); rintro e w' ⟨rfl, hb⟩; replace HB := Aside0.mk (bthen HB.out hb); clear hb))
        | (go_at_call 141; ((with_reducible refine (impl_RowsOk (.slice A2 m.length c2_) m _ (HT.out.below HB.out)).mono ?_); rintro e w' ⟨rfl, hb⟩; replace HB := Aside0.mk (bthen HB.out hb); clear hb))
        | (go_at_call 148; ((with_reducible refine (impl_flowJoin _ _ l m _ (HS.out.below HB.out) (HT.out.below HB.out) A2_.out A4_.out a1 a3).mono ?_); rintro e w' ⟨u2, rfl, hr, hb⟩; have HF2 := Aside0.mk (Kd.R_lower hr HB.out.size); replace HB := Aside0.mk (bthen HB.out hb); clear hr hb)))
      go_ret
      exact RetR.mk (by rw [flowJoin, hs, ht]; exact HF2.out) HB.out
theorem rw_add_lt {w : World} {ad : Addr} {xs : List Rw} (h : kRw.C w (some ad) xs.length xs) {k : Nat} (hk : k < xs.length) (j : Nat) : (ad.add j).block < w.heap.size := add_blk ad j ▸ rwLt h hk
set_option maxRecDepth 100000 in
set_option maxHeartbeats 4000000 in
theorem spec_l11Join (v v2 : Value) (s t : List Rw) (w : World) (h : Sl kRw w v s) (h2 : Sl kRw w v2 t) (hl1 : s.length ≤ 400) (hl2 : t.length ≤ 400) : Calls Try.prog 160 #[v, v2] w (RetR kRw 87 w (sum (pairsR s t))) := by
  obtain ⟨A, c_, rfl, HC, hr⟩ := h
  have hm := Kd.C_max hr
  have HR := Aside0.mk hr
  clear hr
  obtain ⟨A2, c2_, rfl, HC2, hr2⟩ := h2
  have hm2 := Kd.C_max hr2
  have HR2 := Aside0.mk hr2
  clear hr2
  have HN := Aside0.mk (R_none (d := kRw) (e := 87) (base := w.heap.size) (ok := okT) (blk_new w (.cells #[] 87)) (Nat.le_refl _) trivial)
  have HB := Aside0.mk (Below.refl w.heap.size w)
  go_enter Try.func160, Try.ntmps160
  replace HB := Aside0.mk (below_alloc (Below.refl w.heap.size w) (.cells #[] 87))
  go_wp2
  go_loopw [5, 6] (fun o i wr => ∃ (k : Nat), k ≤ s.length ∧ i = .int .i64 k ∧ Aside0 (kRw.R 87 wr w.heap.size okT o (pairsR (s.take k) t)) ∧ Aside0 (Below w.heap.size w wr)) (fun _ i _ => s.length - (intOf i).toNat)
  case atStart => exact ⟨0, Nat.zero_le _, rfl, HN, HB⟩
  case round =>
    clear HB HN
    obtain ⟨k, hk, rfl, HO, HB⟩ := hrel
    by_cases hlt : k < s.length
    · have hpl : (pairsR (s.take k) t).length ≤ 400 * 400 := Nat.le_trans (pairsR_len t (s.take k)) (Nat.mul_le_mul hl2 (by rw [List.length_take]; omega))
      obtain ⟨x, hx⟩ : ∃ x, s[k]? = some x := ⟨_, List.getElem?_eq_getElem hlt⟩
      have HX := Aside0.mk hx
      clear hx
      go_wp2
      go_loopw [5, 7] (fun o i wq => ∃ (j : Nat), j ≤ t.length ∧ i = .int .i64 j ∧ Aside0 (kRw.R 87 wq w.heap.size okT o (pairsR (s.take k) t ++ jrowR x (t.take j))) ∧ Aside0 (Below w.heap.size w wq)) (fun _ i _ => t.length - (intOf i).toNat)
      case atStart => exact ⟨0, Nat.zero_le _, rfl, ⟨by simpa [jrowR] using HO.out⟩, HB⟩
      case round =>
        clear HO HB
        obtain ⟨j, hj, rfl, HO, HB⟩ := hrel
        by_cases hlt2 : j < t.length
        · obtain ⟨ad, x', e, HX', h0, h1, h2, h3, h4⟩ := rdRw HR.out HB.out hlt
          cases e
          have ex : x' = x := Option.some.inj (HX'.out.symm.trans HX.out)
          subst ex
          obtain ⟨ad2, y, e, HY, i0, i1, i2, i3, i4⟩ := rdRw HR2.out HB.out hlt2
          cases e
          have a1 := rw_add_lt HR.out hlt (k * 5)
          have a2 := rw_add_lt HR2.out hlt2 (j * 5)
          have hjl := jrowR_len x' (t.take j)
          have p0 := fun u => Ext.cell h0 u
          have q0 := fun u => Ext.cell i0 u
          cases hxy : (x'.f0 == y.f0)
          · go_wp2
            refine wp_region_ext (by kernel_rfl) (by kernel_rfl) ?_
            repeat (any_goals (first | go_big_quiet_step (fail) | quiet_step (fail) | (refine wpQuiet_step (fun K hK => ?_); go_simp; split <;> (refine hK _ ?_; clear hK K))))
            all_goals (refine wpQuiet_nil ?_; intro u)
            go_wp2
            go_roundw
            case rel => exact ⟨j + 1, by omega, by go_num, ⟨by rw [jrowR_snoc HY.out, if_neg (by simpa using hxy), List.append_nil]; exact Kd.R_below HO.out u.bel⟩, ⟨bthen HB.out u.bel⟩⟩
            case measure => simp [intOf]; omega
          · go_wp2
            refine wp_region_ext (by kernel_rfl) (by kernel_rfl) ?_
            repeat (any_goals (first | go_big_quiet_step (fail) | quiet_step (fail) | (refine wpQuiet_step (fun K hK => ?_); go_simp; split <;> (refine hK _ ?_; clear hK K))))
            all_goals (refine wpQuiet_nil ?_; intro u)
            have HO1 := Aside0.mk (Kd.R_below HO.out u.bel)
            replace h0 := pw_cell_below u.bel h0
            replace h1 := pw_cell_below u.bel h1
            replace h2 := pw_cell_below u.bel h2
            replace h3 := pw_cell_below u.bel h3
            replace h4 := pw_cell_below u.bel h4
            replace i1 := pw_cell_below u.bel i1
            replace i2 := pw_cell_below u.bel i2
            replace i3 := pw_cell_below u.bel i3
            replace i4 := pw_cell_below u.bel i4
            replace HB := Aside0.mk (bthen HB.out u.bel)
            have hW0 := HB.out.size
            clear p0 q0 i0 HO
            generalize u.w' = W at *
            go_wp2
            have HOd := Aside0.mk (R_drew HO1.out)
            go_region_held3 (fun w' => w'.cell? (ad.add (k * 5)) = some (.int .i64 x'.f0) ∧ w'.cell? ⟨(ad.add (k * 5)).block, (ad.add (k * 5)).off + 1, none⟩ = some (.int .i64 x'.f1) ∧ w'.cell? ⟨(ad.add (k * 5)).block, (ad.add (k * 5)).off + 2, none⟩ = some (.int .i64 x'.f2.f0) ∧ w'.cell? ⟨(ad.add (k * 5)).block, (ad.add (k * 5)).off + 3, none⟩ = some (.int .i64 x'.f2.f1) ∧ w'.cell? ⟨(ad.add (k * 5)).block, (ad.add (k * 5)).off + 4, none⟩ = some (.int .i64 x'.f3) ∧ w'.cell? ⟨(ad2.add (j * 5)).block, (ad2.add (j * 5)).off + 1, none⟩ = some (.int .i64 y.f1) ∧ w'.cell? ⟨(ad2.add (j * 5)).block, (ad2.add (j * 5)).off + 2, none⟩ = some (.int .i64 y.f2.f0) ∧ w'.cell? ⟨(ad2.add (j * 5)).block, (ad2.add (j * 5)).off + 3, none⟩ = some (.int .i64 y.f2.f1) ∧ w'.cell? ⟨(ad2.add (j * 5)).block, (ad2.add (j * 5)).off + 4, none⟩ = some (.int .i64 y.f3)) (first | exact ⟨h0, h1, h2, h3, h4, i1, i2, i3, i4⟩ | exact HM | exact ⟨pw_cell_below hb5 h0, pw_cell_below hb5 h1, pw_cell_below hb5 h2, pw_cell_below hb5 h3, pw_cell_below hb5 h4, pw_cell_below hb5 i1, pw_cell_below hb5 i2, pw_cell_below hb5 i3, pw_cell_below hb5 i4⟩ | exact ⟨pw_cell_below (by repeat (first | exact Below.refl _ _ | apply below_alloc | apply below_drew | assumption)) h0, pw_cell_below (by repeat (first | exact Below.refl _ _ | apply below_alloc | apply below_drew | assumption)) h1, pw_cell_below (by repeat (first | exact Below.refl _ _ | apply below_alloc | apply below_drew | assumption)) h2, pw_cell_below (by repeat (first | exact Below.refl _ _ | apply below_alloc | apply below_drew | assumption)) h3, pw_cell_below (by repeat (first | exact Below.refl _ _ | apply below_alloc | apply below_drew | assumption)) h4, pw_cell_below (by repeat (first | exact Below.refl _ _ | apply below_alloc | apply below_drew | assumption)) i1, pw_cell_below (by repeat (first | exact Below.refl _ _ | apply below_alloc | apply below_drew | assumption)) i2, pw_cell_below (by repeat (first | exact Below.refl _ _ | apply below_alloc | apply below_drew | assumption)) i3, pw_cell_below (by repeat (first | exact Below.refl _ _ | apply below_alloc | apply below_drew | assumption)) i4⟩)
              (first
               | (go_at_call 199; ((with_reducible refine (spec_l3Pair _ _ _).mono ?_); rintro e w' ⟨rfl, rfl⟩))
               | (go_at_call 162; ((with_reducible refine (spec_TimeJoin _ _ _ _ _).mono ?_); rintro e w5 ⟨rfl, hb⟩; have hb5 : Below W.heap.size W w5 := bthen (below_drew (Below.refl _ _)) hb; have HO5 := Aside0.mk (Kd.R_below HOd.out hb); have HB5 := Aside0.mk (bthen HB.out hb5); have hw5 := hb5.size; clear hb))
               | (refine stepRw (W := w5) (base := w.heap.size) (xs := pairsR (s.take k) t ++ jrowR x' (t.take j)) (ok := okT) rfl rfl rfl HO5.out (fun q hq => by first | trivial | omega) (by omega) (by rw [List.length_append]; rw [List.length_take] at hjl; omega) ?_; intro v1 w1 hr1 hb1 hg1; have HO4 := Aside0.mk hr1; have HB4 := Aside0.mk (below_more HB5.out hb1); have HG4 := Aside0.mk hg1; have HM : w1.cell? (ad.add (k * 5)) = some (.int .i64 x'.f0) ∧ w1.cell? ⟨(ad.add (k * 5)).block, (ad.add (k * 5)).off + 1, none⟩ = some (.int .i64 x'.f1) ∧ w1.cell? ⟨(ad.add (k * 5)).block, (ad.add (k * 5)).off + 2, none⟩ = some (.int .i64 x'.f2.f0) ∧ w1.cell? ⟨(ad.add (k * 5)).block, (ad.add (k * 5)).off + 3, none⟩ = some (.int .i64 x'.f2.f1) ∧ w1.cell? ⟨(ad.add (k * 5)).block, (ad.add (k * 5)).off + 4, none⟩ = some (.int .i64 x'.f3) ∧ w1.cell? ⟨(ad2.add (j * 5)).block, (ad2.add (j * 5)).off + 1, none⟩ = some (.int .i64 y.f1) ∧ w1.cell? ⟨(ad2.add (j * 5)).block, (ad2.add (j * 5)).off + 2, none⟩ = some (.int .i64 y.f2.f0) ∧ w1.cell? ⟨(ad2.add (j * 5)).block, (ad2.add (j * 5)).off + 3, none⟩ = some (.int .i64 y.f2.f1) ∧ w1.cell? ⟨(ad2.add (j * 5)).block, (ad2.add (j * 5)).off + 4, none⟩ = some (.int .i64 y.f3) := ⟨cell_app HO5.out hg1 (pw_cell_below hb5 h0) (by first | exact Or.inl (by assumption) | exact Or.inr (fun e => e rfl) | exact Or.inr (fun e => e.1 rfl) | exact Or.inr (fun e => e.2 rfl) | exact Or.inl (Nat.lt_of_lt_of_le (by assumption) (by omega)) | exact Or.inr (by intro e; (try dsimp only at e); omega)), cell_app HO5.out hg1 (pw_cell_below hb5 h1) (by first | exact Or.inl (by assumption) | exact Or.inr (fun e => e rfl) | exact Or.inr (fun e => e.1 rfl) | exact Or.inr (fun e => e.2 rfl) | exact Or.inl (Nat.lt_of_lt_of_le (by assumption) (by omega)) | exact Or.inr (by intro e; (try dsimp only at e); omega)), cell_app HO5.out hg1 (pw_cell_below hb5 h2) (by first | exact Or.inl (by assumption) | exact Or.inr (fun e => e rfl) | exact Or.inr (fun e => e.1 rfl) | exact Or.inr (fun e => e.2 rfl) | exact Or.inl (Nat.lt_of_lt_of_le (by assumption) (by omega)) | exact Or.inr (by intro e; (try dsimp only at e); omega)), cell_app HO5.out hg1 (pw_cell_below hb5 h3) (by first | exact Or.inl (by assumption) | exact Or.inr (fun e => e rfl) | exact Or.inr (fun e => e.1 rfl) | exact Or.inr (fun e => e.2 rfl) | exact Or.inl (Nat.lt_of_lt_of_le (by assumption) (by omega)) | exact Or.inr (by intro e; (try dsimp only at e); omega)), cell_app HO5.out hg1 (pw_cell_below hb5 h4) (by first | exact Or.inl (by assumption) | exact Or.inr (fun e => e rfl) | exact Or.inr (fun e => e.1 rfl) | exact Or.inr (fun e => e.2 rfl) | exact Or.inl (Nat.lt_of_lt_of_le (by assumption) (by omega)) | exact Or.inr (by intro e; (try dsimp only at e); omega)), cell_app HO5.out hg1 (pw_cell_below hb5 i1) (by first | exact Or.inl (by assumption) | exact Or.inr (fun e => e rfl) | exact Or.inr (fun e => e.1 rfl) | exact Or.inr (fun e => e.2 rfl) | exact Or.inl (Nat.lt_of_lt_of_le (by assumption) (by omega)) | exact Or.inr (by intro e; (try dsimp only at e); omega)), cell_app HO5.out hg1 (pw_cell_below hb5 i2) (by first | exact Or.inl (by assumption) | exact Or.inr (fun e => e rfl) | exact Or.inr (fun e => e.1 rfl) | exact Or.inr (fun e => e.2 rfl) | exact Or.inl (Nat.lt_of_lt_of_le (by assumption) (by omega)) | exact Or.inr (by intro e; (try dsimp only at e); omega)), cell_app HO5.out hg1 (pw_cell_below hb5 i3) (by first | exact Or.inl (by assumption) | exact Or.inr (fun e => e rfl) | exact Or.inr (fun e => e.1 rfl) | exact Or.inr (fun e => e.2 rfl) | exact Or.inl (Nat.lt_of_lt_of_le (by assumption) (by omega)) | exact Or.inr (by intro e; (try dsimp only at e); omega)), cell_app HO5.out hg1 (pw_cell_below hb5 i4) (by first | exact Or.inl (by assumption) | exact Or.inr (fun e => e rfl) | exact Or.inr (fun e => e.1 rfl) | exact Or.inr (fun e => e.2 rfl) | exact Or.inl (Nat.lt_of_lt_of_le (by assumption) (by omega)) | exact Or.inr (by intro e; (try dsimp only at e); omega))⟩; clear hr1 hb1 hg1))
            go_wp2
            go_roundw
            case rel => exact ⟨j + 1, by omega, by go_num, ⟨by have h4 := HO4.out; rw [wrapI] at h4; rw [jrowR_snoc HY.out, if_pos (by simpa using hxy), ← List.append_assoc]; exact h4⟩, HB4⟩
            case measure => simp [intOf]; omega
        · obtain rfl : j = t.length := by omega
          rw [List.take_length] at HO
          go_wp2
          go_roundw
          case rel => exact ⟨k + 1, by omega, by go_num, ⟨by rw [pairsR_snoc HX.out]; exact HO.out⟩, HB⟩
          case measure => simp [intOf]; omega
    · obtain rfl : k = s.length := by omega
      rw [List.take_length] at HO
      have hpl : (pairsR s t).length ≤ 400 * 400 := Nat.le_trans (pairsR_len t s) (Nat.mul_le_mul hl2 hl1)
      go_wp2_with (go_at_call 138; ((with_reducible refine (spec_l2Sum _ (pairsR s t) _ (Sl.of_R HO.out) (by omega)).mono ?_); rintro e w' ⟨u, rfl, hr, hb⟩; have HF := Aside0.mk (Kd.R_lower hr HB.out.size); replace HB := Aside0.mk (bthen HB.out hb); clear hr hb))
      go_ret
      exact RetR.mk HF.out HB.out
set_option maxRecDepth 100000 in
set_option maxHeartbeats 2000000 in
theorem spec_FlowJoin (v v2 : Value) (l m : List Rw) (w : World) (h : Sl kRw w v l) (h2 : Sl kRw w v2 m) : Calls Try.prog 77 #[v, v2] w fun e w' => ∃ u, e = .returned u ∧ Sl kRw w' u (flowJoin l m) ∧ Below w.heap.size w w' := by
  have HS := Aside0.mk h
  have HT := Aside0.mk h2
  obtain ⟨A, c_, rfl, HC, hr⟩ := h
  have hm := Kd.C_max hr
  have HR := Aside0.mk hr
  clear hr
  obtain ⟨A2, c2_, rfl, HC2, hr2⟩ := h2
  have hm2 := Kd.C_max hr2
  have HR2 := Aside0.mk hr2
  clear hr2
  cases hs : rowsOk l
  · have HB := Aside0.mk (Below.refl w.heap.size w)
    go_enter Try.func77, Try.ntmps77
    go_wp2_with (go_at_call 71; ((with_reducible refine (spec_RowsOk _ l _ (HS.out.below HB.out)).mono ?_); rintro e wb ⟨rfl, hb⟩; replace HB := Aside0.mk (bthen HB.out hb); clear hb))
    go_ret
    exact ⟨_, rfl, by rw [flowJoin, hs]; exact Sl.of_R (R_none (e := 87) (ok := okT) (blk_new wb _) (Nat.le_refl _) trivial), below_alloc HB.out _⟩
  · cases ht : rowsOk m
    · have HB := Aside0.mk (Below.refl w.heap.size w)
      go_enter Try.func77, Try.ntmps77
      go_wp2_with (first | (go_at_call 71; ((with_reducible refine (spec_RowsOk (.slice A l.length c_) l _ (HS.out.below HB.out)).mono ?_); rintro e w' ⟨rfl, hb⟩; replace HB := Aside0.mk (bthen HB.out hb); clear hb)) | (go_at_call 71; ((with_reducible refine (spec_RowsOk (.slice A2 m.length c2_) m _ (HT.out.below HB.out)).mono ?_); rintro e wb ⟨rfl, hb⟩; replace HB := Aside0.mk (bthen HB.out hb); clear hb)))
      go_ret
      exact ⟨_, rfl, by rw [flowJoin, hs, ht]; exact Sl.of_R (R_none (e := 87) (ok := okT) (blk_new wb _) (Nat.le_refl _) trivial), below_alloc HB.out _⟩
    · obtain ⟨a1, a2⟩ := rowsOk_all hs
      obtain ⟨a3, a4⟩ := rowsOk_all ht
      clear a2 a4
      have HB := Aside0.mk (Below.refl w.heap.size w)
      go_enter Try.func77, Try.ntmps77
      go_wp2_with (first
        | (go_at_call 71; ((with_reducible refine (spec_RowsOk (.slice A l.length c_) l _ (HS.out.below HB.out)).mono ?_); rintro e w' ⟨rfl, hb⟩; replace HB := Aside0.mk (bthen HB.out hb); clear hb))
        | (go_at_call 71; ((with_reducible refine (spec_RowsOk (.slice A2 m.length c2_) m _ (HT.out.below HB.out)).mono ?_); rintro e w' ⟨rfl, hb⟩; replace HB := Aside0.mk (bthen HB.out hb); clear hb))
        | (go_at_call 160; ((with_reducible refine (spec_l11Join _ _ l m _ (HS.out.below HB.out) (HT.out.below HB.out) a1 a3).mono ?_); rintro e w' ⟨u, rfl, hr, hb⟩; have HF := Aside0.mk (Kd.R_lower hr HB.out.size); replace HB := Aside0.mk (bthen HB.out hb); clear hr hb))
        | (go_at_call 137; ((with_reducible refine (spec_l2Fit _ (sum (pairsR l m)) _ (Sl.of_R HF.out)).mono ?_); rintro e w' ⟨u2, rfl, hr, hb⟩; have HF2 := Aside0.mk hr; replace HB := Aside0.mk (bthen HB.out hb); clear hr hb)))
      go_ret
      exact ⟨_, rfl, by rw [flowJoin, hs, ht]; exact HF2.out, HB.out⟩
end Go.Proofs.Ythljcnlmeefcjaa.X

namespace Go.Proofs.Ythljcnlmeefcjaa.X
open Go.RowKit
set_option linter.unusedVariables false
set_option linter.unusedSimpArgs false

theorem mul_small {s t : List It} {c d : Int} (h : massI s ≤ c) (g : massI t ≤ d) (hc : c ≤ 1000) (hd : d ≤ 1000) : massI s * massI t ≤ 1000000 := by
  have h0 := massI_nonneg s
  have h1 := massI_nonneg t
  have := Int.mul_le_mul (show massI s ≤ 1000 by omega) (show massI t ≤ 1000 by omega) h1 (by omega)
  omega
end Go.Proofs.Ythljcnlmeefcjaa.X

namespace Go.Proofs.Ythljcnlmeefcjaa.X
open Go.RowKit
set_option linter.unusedVariables false
set_option linter.unusedSimpArgs false

/-- rows in bounds, of which there are few copies -/
structure FewR (c : Int) (n : Nat) (l : List Rw) : Prop where
  mass : mass l ≤ c
  len : l.length ≤ n
  ok : ∀ r ∈ l, rowOk r = true
theorem FewR.of {l : List Rw} (h : rowsOk l = true) (hd : RowsD l) : FewR 30 10 l := by
  obtain ⟨h1, h2⟩ := hd.2.1 h
  have hm : X.mass l ≤ 3 * l.length := mass_le (c := 3) fun r hr => by have := h1 r hr; unfold small at this; omega
  exact ⟨by omega, h2, (rowsOk_all h).2⟩
theorem FewR.sum {c : Int} {n : Nat} {l : List Rw} (h : FewR c n l) (hc : c ≤ 99999) : FewR c n (X.sum l) := by
  have hm := h.mass
  have h1 := sum_mass (l := l) (by omega)
  have h2 := sum_len l
  refine ⟨by omega, by have := h.len; omega, fun r hr => ?_⟩
  obtain ⟨x, hx, e⟩ := sum_from r hr
  have := mass_mem hr
  exact rowOk_key e (h.ok x hx) (by omega)
theorem FewR.batch {c : Int} {n : Nat} {l : List Rw} (h : FewR c n l) (hc : c ≤ 99999) (hn : n ≤ 400) : batchOk (X.sum l) = true := batchOk_sum h.ok (by have := h.mass; omega) (by have := h.len; omega)
theorem FewR.rows {c : Int} {n : Nat} {l : List Rw} (h : FewR c n l) (hn : n ≤ 400) : rowsOk l = true := by
  unfold rowsOk; rw [decide_eq_true (show l.length ≤ 400 by have := h.len; omega), Bool.and_true, List.all_eq_true]; exact h.ok
theorem FewR.fit {c : Int} {n : Nat} {l : List Rw} (h : FewR c n l) (hc : c ≤ 99999) (hn : n ≤ 400) : X.fit (X.sum l) = X.sum l := fit_yes (h.batch hc hn)
def eachW3 (how : Int) (φ : Wt) : Wt := fun a b t => match eachKV a b how with | some (p, q) => φ p q t | none => 0
theorem sh_eachR (how : Int) (φ : Wt) (s : List Rw) : sg (sh φ) (s.flatMap (eachR how)) = sg (sh (eachW3 how φ)) s := by
  rw [sg_flatMap]
  refine sg_congr fun x _ => ?_
  unfold eachR sh eachW3
  cases eachKV x.f0 x.f1 how with
  | none => simp [sg]
  | some p => obtain ⟨a, b⟩ := p; simp [sg]
theorem mass_eachR (how : Int) (s : List Rw) : mass (s.flatMap (eachR how)) ≤ mass s := by
  unfold mass
  rw [sg_flatMap]
  refine sg_le fun x _ => ?_
  unfold eachR
  cases eachKV x.f0 x.f1 how with
  | none => simp [sg]
  | some p => obtain ⟨a, b⟩ := p; simp [sg]
theorem FewR.each {c : Int} {n : Nat} {s : List Rw} (h : FewR c n s) (how : Int) : FewR c n (s.flatMap (eachR how)) := ⟨Int.le_trans (mass_eachR how s) h.mass, Nat.le_trans (eachR_len how s) h.len, eachR_ok h.ok⟩
theorem mul_small3 {x y : Rw} (hx : rowOk x = true) (hy : rowOk y = true) : wrap64 (x.f3 * y.f3) = x.f3 * y.f3 := by
  have h := (pairR_in hx hy).2.2.2.2.2.1
  exact h
theorem mass_pairsR {s t : List Rw} (hs : ∀ r ∈ s, rowOk r = true) (ht : ∀ r ∈ t, rowOk r = true) : mass (pairsR s t) ≤ mass s * mass t := by
  unfold pairsR mass
  rw [sg_flatMap]
  have e : sg (fun r : Rw => (r.f3.natAbs : Int)) s * sg (fun r : Rw => (r.f3.natAbs : Int)) t = sg (fun x => (x.f3.natAbs : Int) * sg (fun r : Rw => (r.f3.natAbs : Int)) t) s := by rw [sg_mul']
  rw [e]
  refine sg_le fun x hx => ?_
  unfold jrowR
  rw [sg_map, sg_filter, ← sg_mul]
  refine sg_le fun y hy => ?_
  have h1 : ((x.f3 * y.f3).natAbs : Int) = (x.f3.natAbs : Int) * (y.f3.natAbs : Int) := by rw [Int.natAbs_mul]; simp
  have h3 : 0 ≤ (x.f3.natAbs : Int) * (y.f3.natAbs : Int) := Int.mul_nonneg (Int.natCast_nonneg _) (Int.natCast_nonneg _)
  split
  · simp only [pairR, mul_small3 (hs x hx) (ht y hy), h1]; exact Int.le_refl _
  · exact h3
/-- what the pairs with t weigh, and what those with s weigh -/
def joinW3 (t : List Rw) (φ : Wt) : Wt := fun a b c => sg (fun y => if a = y.f0 then y.f3 * φ a (jval b y.f1) (tJoin c y.f2) else 0) t
theorem sh_pairsR {s t : List Rw} (hs : ∀ r ∈ s, rowOk r = true) (ht : ∀ r ∈ t, rowOk r = true) (φ : Wt) : sg (sh φ) (pairsR s t) = sg (sh (joinW3 t φ)) s := by
  unfold pairsR
  rw [sg_flatMap]
  refine sg_congr fun x hx => ?_
  unfold jrowR
  rw [sg_map, sg_filter]
  unfold sh joinW3
  rw [← sg_mul]
  refine sg_congr fun y hy => ?_
  by_cases he : x.f0 = y.f0
  · rw [if_pos (decide_eq_true he), if_pos he]
    simp only [pairR, mul_small3 (hs x hx) (ht y hy)]
    rw [Int.mul_assoc]
  · rw [if_neg (by simpa using he), if_neg he]; simp
theorem FewR.pairs {c d : Int} {n m : Nat} {s t : List Rw} (h : FewR c n s) (g : FewR d m t) (hcd : c * d ≤ 99999) : FewR (c * d) (m * n) (pairsR s t) := by
  have h0 := mass_nonneg s
  have h1 := mass_nonneg t
  have hm := h.mass
  have gm := g.mass
  have hb : X.mass s * X.mass t ≤ c * d := Int.mul_le_mul hm gm h1 (by omega)
  have hp := mass_pairsR h.ok g.ok
  refine ⟨by omega, Nat.le_trans (pairsR_len t s) (Nat.mul_le_mul g.len h.len), fun z hz => ?_⟩
  have hz2 := mass_mem hz
  obtain ⟨x, hx, hz⟩ := List.mem_flatMap.1 hz
  obtain ⟨y, hy, rfl⟩ := List.mem_map.1 hz
  obtain ⟨h0, h1, h2, h3, h4, h5, h6⟩ := pairR_in (h.ok x hx) (g.ok y (List.mem_filter.1 hy).1)
  simp only [rowOk, h4, Bool.and_true, Bool.and_eq_true, decide_eq_true_eq]
  omega
theorem sh_present (ψ : Int → Int → Int) (l : List Rw) (t : Tm) : sg (shI ψ) (presentOf l t) = sg (sh fun a b c => if below c t = true then ψ a b else 0) l := by
  unfold presentOf
  rw [sh_itemOf, sg_filter]
  refine sg_congr fun x _ => ?_
  unfold sh
  by_cases h : below x.f2 t = true <;> simp [h]
theorem mass_presentOf (l : List Rw) (t : Tm) : massI (presentOf l t) ≤ mass l := by
  unfold presentOf
  rw [mass_itemOf]
  unfold mass
  rw [sg_filter]
  exact sg_le fun x _ => by split <;> omega
theorem present_setOk {c : Int} {n : Nat} {l : List Rw} (h : FewR c n l) (hc : c ≤ 99999) (hn : n ≤ 400) (t : Tm) : setOk (present l t) = true := by
  have h1 := mass_presentOf l t
  have h2 := presentOf_len l t
  have h3 := h.mass
  have h4 := h.len
  unfold present
  refine setOk_items (fun y hy => ?_) (by omega) (by omega)
  obtain ⟨r, hr, rfl⟩ := presentOf_mem hy
  have := rowOk_in (h.ok r hr)
  unfold keyOk itemOf; simp only; omega
end Go.Proofs.Ythljcnlmeefcjaa.X

namespace Go.Proofs.Ythljcnlmeefcjaa.X
open Go.RowKit
set_option linter.unusedVariables false
set_option linter.unusedSimpArgs false

/-- a weight that counts what is not later than a time -/
def upW (t : Tm) (ψ : Int → Int → Int) : Wt := fun a b c => if below c t = true then ψ a b else 0
theorem sh_present' (ψ : Int → Int → Int) (l : List Rw) (t : Tm) : sg (shI ψ) (presentOf l t) = sg (sh (upW t ψ)) l := sh_present ψ l t
theorem eachW_up (how : Int) (t : Tm) (ψ : Int → Int → Int) : eachW3 how (upW t ψ) = upW t (eachW how ψ) := by
  funext a b c
  unfold eachW3 upW eachW
  cases eachKV a b how with
  | none => simp
  | some p => obtain ⟨p, q⟩ := p; rfl
theorem batchAt_nil (t : Tm) : batchAt [] t = [] := by unfold batchAt; split <;> rfl
theorem present_mass {l : List Rw} {c : Int} {n : Nat} (h : FewR c n l) (hc : c ≤ 99999) (t : Tm) : massI (present l t) ≤ c ∧ massI (presentOf l t) ≤ c := by
  have h1 := mass_presentOf l t
  have h2 := h.mass
  have h3 := items_mass (l := presentOf l t) (by omega)
  unfold present
  exact ⟨by omega, by omega⟩
/-- FnFlowEach, told plainly -/
theorem flowEach_atF {a : List Rw} {how : Int} (ha : rowsOk a = true) (fa : FewR 30 10 a) : ∀ t, tOk t = true → batchAt (flowEach a how) t = setEach (batchAt a t) how := fun t ht => by
  have fe := fa.each how
  have e1 := fe.fit (by omega) (by omega)
  have fs := fe.sum (by omega)
  have r1 := fs.rows (by omega)
  have s1 := present_setOk fa (by omega) (by omega) t
  by_cases hh : (decide (1 ≤ how) && decide (how ≤ 7)) = true
  · have ef : flowEach a how = sum (a.flatMap (eachR how)) := by unfold flowEach; rw [ha, Bool.true_and, if_pos hh, e1]
    have eb : batchAt a t = present a t := by unfold batchAt; rw [ha, ht]; rfl
    rw [ef, eb]
    unfold batchAt setEach
    have hh2 := hh
    rw [Bool.and_eq_true] at hh2
    obtain ⟨u1, u2⟩ := hh2
    simp only [r1, ht, s1, u1, u2, Bool.and_self, if_true]
    obtain ⟨m1, m2⟩ := present_mass fs (by omega) t
    obtain ⟨m3, m4⟩ := present_mass fa (by omega) t
    have m5 := mass_each how (present a t)
    have m6 := fe.mass
    show items (presentOf _ t) = _
    refine items_eq (by omega) (by omega) (fun ψ => ?_)
    rw [sh_present', sum_sh (by omega), sh_eachR, eachW_up, sh_each]
    show _ = sg (shI _) (items (presentOf a t))
    rw [items_sh (by omega), sh_present']
  · have ef : flowEach a how = [] := by unfold flowEach; rw [ha, Bool.true_and, if_neg hh]
    rw [ef, batchAt_nil]
    unfold setEach
    rw [Bool.and_assoc, Bool.eq_false_iff.2 hh, Bool.and_false]; rfl
theorem below_join {c d t : Tm} (hc : tOk c = true) (hd : tOk d = true) : below (tJoin c d) t = (below c t && below d t) := by
  unfold tJoin; rw [hc, hd]
  simp only [Bool.and_self, if_true, below, tmax]
  rw [Bool.eq_iff_iff]
  simp only [Bool.and_eq_true, decide_eq_true_eq]
  split <;> split <;> omega
/-- FnFlowJoin, told plainly -/
theorem flowJoin_atF {a b : List Rw} (ha : rowsOk a = true) (hb : rowsOk b = true) (fa : FewR 30 10 a) (fb : FewR 30 10 b) : ∀ t, tOk t = true → batchAt (flowJoin a b) t = setJoin (batchAt a t) (batchAt b t) := fun t ht => by
  have fp := fa.pairs fb (by omega)
  have e1 := fp.fit (by omega) (by omega)
  have fs := fp.sum (by omega)
  have r1 := fs.rows (by omega)
  have s1 := present_setOk fa (by omega) (by omega) t
  have s2 := present_setOk fb (by omega) (by omega) t
  have ef : flowJoin a b = sum (pairsR a b) := by unfold flowJoin; rw [ha, hb]; simp only [Bool.and_self, if_true]; exact e1
  have ea : batchAt a t = present a t := by unfold batchAt; rw [ha, ht]; rfl
  have eb : batchAt b t = present b t := by unfold batchAt; rw [hb, ht]; rfl
  rw [ef, ea, eb]
  unfold batchAt setJoin
  simp only [r1, ht, s1, s2, Bool.and_self, if_true]
  obtain ⟨m1, m2⟩ := present_mass fs (by omega) t
  obtain ⟨m3, m4⟩ := present_mass fa (by omega) t
  obtain ⟨m5, m6⟩ := present_mass fb (by omega) t
  have m7 := fp.mass
  have p0 := mul_small (c := 30) (d := 30) m3 m5 (by omega) (by omega)
  have p1 := mass_pairs (c := 1000000) p0 (by omega)
  show items (presentOf _ t) = _
  refine items_eq (by omega) (by omega) (fun ψ => ?_)
  rw [sh_present', sum_sh (by omega), sh_pairsR fa.ok fb.ok, sh_pairs p0 (by omega)]
  show _ = sg (shI _) (items (presentOf a t))
  rw [items_sh (by omega), sh_present']
  refine sg_congr fun x hx => ?_
  have hxt : tOk x.f2 = true := by have := fa.ok x hx; simp only [rowOk, Bool.and_eq_true] at this; exact this.1.1.2
  unfold sh
  congr 1
  have ej : ∀ k v, joinW (present b t) ψ k v = sg (sh (upW t (fun a' b' => if k = a' then ψ k (jval v b') else 0))) b := fun k v => by
    have : joinW (present b t) ψ k v = sg (shI (fun a' b' => if k = a' then ψ k (jval v b') else 0)) (items (presentOf b t)) := by
      unfold joinW present
      exact sg_congr fun y _ => by unfold shI; by_cases hk : k = y.f0 <;> simp [hk]
    rw [this, items_sh (by omega), sh_present']
  show joinW3 b (upW t ψ) x.f0 x.f1 x.f2 = upW t (joinW (present b t) ψ) x.f0 x.f1 x.f2
  unfold joinW3
  rw [show upW t (joinW (present b t) ψ) x.f0 x.f1 x.f2 = if below x.f2 t = true then joinW (present b t) ψ x.f0 x.f1 else 0 from rfl, ej]
  by_cases hx0 : below x.f2 t = true
  · rw [if_pos hx0]
    refine sg_congr fun y hy => ?_
    have hyt : tOk y.f2 = true := by have := fb.ok y hy; simp only [rowOk, Bool.and_eq_true] at this; exact this.1.1.2
    unfold sh upW
    rw [below_join hxt hyt, hx0, Bool.true_and]
    by_cases h1 : x.f0 = y.f0 <;> by_cases h2 : below y.f2 t = true <;> simp [h1, h2]
  · rw [if_neg hx0]
    refine sg_zero fun y hy => ?_
    have hyt : tOk y.f2 = true := by have := fb.ok y hy; simp only [rowOk, Bool.and_eq_true] at this; exact this.1.1.2
    unfold upW
    rw [below_join hxt hyt, Bool.eq_false_iff.2 hx0]; simp
end Go.Proofs.Ythljcnlmeefcjaa.X

