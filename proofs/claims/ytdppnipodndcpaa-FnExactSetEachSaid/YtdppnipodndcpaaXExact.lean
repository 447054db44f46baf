/- The walks of the exact laws' own helpers: they copy, size, compare. Conditions: none. -/
import Derived.Test.YtdppnipodndcpaaXBase
namespace Go.Proofs.Ytdppnipodndcpaa.X
open Go.RowKit Go.Proofs.YtdppnipodndcpaaW.PrintWords
set_option linter.unusedVariables false
set_option linter.unusedSimpArgs false

set_option maxRecDepth 100000 in
set_option maxHeartbeats 400000 in
theorem laws_toTime (a b : Int) (w : World) : Calls Try.prog 100 #[.agg #[.int .i64 a, .int .i64 b]] w (RetV w (.agg #[.int .i64 a, .int .i64 b])) := by
  have HB := Aside0.mk (Below.refl w.heap.size w)
  go_enter Try.func100, Try.ntmps100
  go_wp2
  all_goals (refine bodyPost_ret (by simp [results, Try.results100, go_sem, *]; rfl) rfl (RetV.mk ?_ (by repeat (first | exact HB.out | apply below_alloc | refine below_set ?_ (by omega)))); rfl)
set_option maxRecDepth 100000 in
set_option maxHeartbeats 400000 in
theorem laws_toRow (x : Rw) (w : World) : Calls Try.prog 74 #[.agg #[.int .i64 x.f0, .int .i64 x.f1, .int .i64 x.f2.f0, .int .i64 x.f2.f1, .int .i64 x.f3]] w (RetV w (.agg #[.int .i64 x.f0, .int .i64 x.f1, .int .i64 x.f2.f0, .int .i64 x.f2.f1, .int .i64 x.f3])) := by
  have HB := Aside0.mk (Below.refl w.heap.size w)
  go_enter Try.func74, Try.ntmps74
  go_wp2_with (go_at_call 100; refine (laws_toTime _ _ _).mono ?_; rintro e w' ⟨rfl, hb⟩; have HG := Aside0.mk (show w'.heap[w.heap.size + 1]? = some (.cells #[.int .i64 0, .int .i64 0, .int .i64 0, .int .i64 0, .int .i64 0] 35 (0, 0)) from blk_below (blk_alloc (blk_two w _ _) _) hb); replace HB := Aside0.mk (bthen (by repeat (first | exact HB.out | apply below_alloc | refine below_set ?_ (by omega))) hb); obtain ⟨hc, hf⟩ := bcell hb)
  refine ret_cell (p := 2) (g := w.heap.size + 1) (cs := #[.int .i64 x.f0, .int .i64 x.f1, .int .i64 x.f2.f0, .int .i64 x.f2.f1, .int .i64 x.f3]) ?_ ?_ ?_ ?_ Try.underlying35 rfl (by kernel_rfl) ?_
  · rfl
  · rfl
  · rfl
  · refine blk5 (z0 := .int .i64 0) (z1 := .int .i64 0) (z2 := .int .i64 0) (z3 := .int .i64 0) (z4 := .int .i64 0) ?_ _ _ _ _ _
    repeat (first | exact HG.out | refine blk_far ?_ (by simp) _)
  · exact RetV.mk rfl (by repeat (with_reducible first | exact HB.out | refine below_set ?_ (by omega) | apply below_alloc))
set_option maxRecDepth 100000 in
set_option maxHeartbeats 1000000 in
theorem laws_toRowS (v : Value) (l : List Rw) (w : World) (h : Sl kRw w v l) (hl : l.length < 7036874416000) : Calls Try.prog 21 #[v] w (RetR kRw 35 w l) := by
  obtain ⟨A, c_, rfl, HC, hr⟩ := h
  have hm := Kd.C_max hr
  have HR := Aside0.mk hr
  clear hr
  have HB := Aside0.mk (Below.refl w.heap.size w)
  go_enter Try.func21, Try.ntmps21
  go_wp2_with (refine makeRw (w0 := w) l.length rfl (N := 7) rfl rfl rfl rfl hl HB.out (Nat.le_refl _) ?_; intro v1 w1 ho hb hg_ hn_; have HO := Aside0.mk ho; replace HB := Aside0.mk hb; clear ho hb hg_ hn_)
  go_loopw [4] (fun i wr => ∃ k : Nat, k ≤ l.length ∧ i = .int .i64 k ∧ Aside0 (kRw.R 35 wr w.heap.size okT v1 (l.take k ++ List.replicate (l.length - k) default)) ∧ Aside0 (Below w.heap.size w wr)) (fun i _ => l.length - (intOf i).toNat)
  case atStart => exact ⟨0, Nat.zero_le _, rfl, by simpa using HO, HB⟩
  case round =>
    obtain ⟨k, hk, rfl, HO1, HB⟩ := hrel
    by_cases hlt : k < l.length
    · obtain ⟨ad, x, e, HX, h0, h1, h2, h3, h4⟩ := rdRw HR.out HB.out hlt
      cases e
      obtain ⟨g, cap, rfl, hg1, hg2⟩ := formR HO1.out (n := l.length) (by simp; omega) (by omega)
      go_wp2_with (first | (go_at_call 74; refine (laws_toRow x _).mono ?_; rintro e w' ⟨rfl, hb⟩; have HO2 := Aside0.mk (Kd.R_below HO1.out hb); replace HB := Aside0.mk (bthen HB.out hb)) | (refine storeEl kRw (w0 := w) (base := w.heap.size) rfl rfl rfl k x (vRw x) rfl rfl rfl (by kernel_rfl) HO2.out hlt (kRw_M.2 rfl) (okp := fun _ => False) (fun _ hq => hq.elim) HB.out ?_; intro w2 ho hb2 hg_; have HO3 := Aside0.mk ho; replace HB := Aside0.mk hb2; clear ho hb2 hg_))
      go_roundw
      case rel => exact ⟨k + 1, by omega, by go_num, ⟨by have := HO3.out; rw [set_next HX.out] at this; exact this⟩, HB⟩
      case measure => simp [intOf]; omega
    · go_wp2
      go_ret
      exact RetR.mk (by have := HO1.out; rw [List.take_of_length_le (by omega), show l.length - k = 0 by omega] at this; simpa using this) HB.out
set_option maxRecDepth 100000 in
set_option maxHeartbeats 1000000 in
theorem laws_toRowSS (v : Value) (l : List (List Rw)) (w : World) (h : Sl (Kd.slice 101 kRw) w v l) (hl : l.length < 7036874416000) (hl2 : ∀ x ∈ l, x.length < 7036874416000) : Calls Try.prog 80 #[v] w fun e w' => ∃ u, e = .returned u ∧ Kd.S (Kd.slice 35 kRw) 23 w' w.heap.size okT u l ∧ Below w.heap.size w w' := by
  obtain ⟨A, c_, rfl, HC, hr⟩ := h
  have hm := Kd.C_max hr
  have HR := Aside0.mk hr
  clear hr
  have HB := Aside0.mk (Below.refl w.heap.size w)
  go_enter Try.func80, Try.ntmps80
  go_wp2_with (refine Kd.S_make (Kd.slice 35 kRw) (w0 := w) w.heap.size 23 (N := 7) rfl rfl 50 _ _ rfl (l.length : Int) rfl rfl underRwSS (.slice none 0 0) 24 infoRwS rfl (by decide) (by omega) [] (ok := okT) (okp := fun _ => False) ⟨_, rfl, Kd.R_nil _ _ _ _ _⟩ (fun _ hk => hk.elim) trivial (by omega) (by simp; omega) HB.out (Nat.le_refl _) ?_; intro v1 w1 ho hb hg_ hn_; have HO := Aside0.mk ho; replace HB := Aside0.mk hb; clear ho hb hg_ hn_)
  go_loopw [4] (fun i wr => ∃ k : Nat, k ≤ l.length ∧ i = .int .i64 k ∧ Aside0 (Kd.S (Kd.slice 35 kRw) 23 wr w.heap.size okT v1 (l.take k ++ List.replicate (l.length - k) [])) ∧ Aside0 (Below w.heap.size w wr)) (fun i _ => l.length - (intOf i).toNat)
  case atStart => exact ⟨0, Nat.zero_le _, rfl, by simpa using HO, HB⟩
  case round =>
    obtain ⟨k, hk, rfl, HO1, HB⟩ := hrel
    by_cases hlt : k < l.length
    · obtain ⟨ad, x, A1, c1, e, HX, h0, HS⟩ := rdSl HR.out HB.out hlt
      cases e
      obtain ⟨g, cap, rfl, hg1, hg2⟩ := formS HO1.out (n := l.length) (by simp; omega) (by omega)
      have hx := hl2 x (List.mem_of_getElem? HX.out)
      go_wp2_with (first | (go_at_call 21; refine (laws_toRowS _ x _ HS.out hx).mono ?_; rintro e w' ⟨u, rfl, hu, hb⟩; have HO2 := Aside0.mk (Kd.S_old HO1.out hb); have HU := Aside0.mk (Kd.R_lower (Kd.R_mono (Kd.R_bound hu) (fun q hq => hq.2.1)) HB.out.size); obtain ⟨A2, c2, rfl, _, _⟩ := Kd.R_reads hu; replace HB := Aside0.mk (bthen HB.out hb)) | (refine storeElS (Kd.slice 35 kRw) (w0 := w) (base := w.heap.size) rfl rfl rfl k x [.slice A2 x.length c2] rfl (by first | exact (Nat.mul_one _).symm | rfl | simp) rfl (by kernel_rfl) (Kd.S_mono HO2.out (fun q hq => hq.2)) (by simp; omega) hlt ⟨_, rfl, HU.out⟩ HB.out ?_; intro w2 ho hb2 hg_; have HO3 := Aside0.mk ho; replace HB := Aside0.mk hb2; clear ho hb2 hg_))
      go_roundw
      case rel => exact ⟨k + 1, by omega, by go_num, ⟨by have := HO3.out; rw [set_next HX.out] at this; exact this⟩, HB⟩
      case measure => simp [intOf]; omega
    · go_wp2
      go_ret
      exact ⟨_, rfl, by have := HO1.out; rw [List.take_of_length_le (by omega), show l.length - k = 0 by omega] at this; simpa using this, HB.out⟩
end Go.Proofs.Ytdppnipodndcpaa.X
