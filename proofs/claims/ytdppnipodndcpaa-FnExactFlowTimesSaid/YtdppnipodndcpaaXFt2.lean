/- The times at which something may change: spec.FlowTimes. Conditions: none. -/
import Derived.Test.YtdppnipodndcpaaXFt1
import Derived.Test.YtdppnipodndcpaaXLw
import Derived.RegionTactic
import Derived.BigRegion
namespace Go.Proofs.Ytdppnipodndcpaa.X
open Go.RowKit Go.Proofs.YtdppnipodndcpaaW.PrintWords
set_option linter.unusedVariables false
set_option linter.unusedSimpArgs false

theorem tJoin_comm (s t : Tm) : tJoin s t = tJoin t s := by
  unfold tJoin
  cases hs : tOk s <;> cases ht : tOk t <;> simp
  unfold tmax
  constructor <;> (split <;> split <;> omega)
theorem tJoin_self {t : Tm} (h : tOk t = true) : tJoin t t = t := by
  unfold tJoin; rw [h]
  simp only [Bool.and_self, if_true, tmax]
  exact Tm.ext' (by simp) (by simp)
theorem nodup_snoc {sm : List Tm} {z : Tm} (h : sm.Nodup) (hz : z ∉ sm) : (sm ++ [z]).Nodup :=
  List.nodup_append.2 ⟨h, by simp, fun a ha b hb e => hz (by rw [List.mem_singleton.1 hb] at e; rw [← e]; exact ha)⟩
/-- a growing list: what is in, which pairs were seen -/
structure SpF (B : Tm → Prop) (sm : List Tm) (i k : Nat) : Prop where
  nodup : sm.Nodup
  clo : ∀ t ∈ sm, Clo B t
  base : ∀ t, B t → t ∈ sm
  seen : ∀ a b x y, sm[a]? = some x → sm[b]? = some y → (a < i ∨ (a = i ∧ b < k)) → b < a → tJoin x y ∈ sm
theorem SpF.app {B : Tm → Prop} {sm : List Tm} {i k : Nat} (h : SpF B sm i k) (hi : i < sm.length) {z : Tm} (hz : z ∉ sm) (hc : Clo B z) : SpF B (sm ++ [z]) i k := by
  refine ⟨?_, fun t ht => ?_, fun t ht => List.mem_append.2 (.inl (h.base t ht)), fun a b x y ha hb hab hba => ?_⟩
  · exact nodup_snoc h.nodup hz
  · rcases List.mem_append.1 ht with ht | ht
    · exact h.clo t ht
    · rw [List.mem_singleton.1 ht]; exact hc
  · rw [List.getElem?_append_left (by omega)] at ha hb
    exact List.mem_append.2 (.inl (h.seen a b x y ha hb hab hba))
theorem SpF.next {B : Tm → Prop} {sm : List Tm} {i k : Nat} (h : SpF B sm i k) {x y : Tm} (hx : sm[i]? = some x) (hy : sm[k]? = some y) (hz : tJoin x y ∈ sm) : SpF B sm i (k + 1) := by
  refine ⟨h.nodup, h.clo, h.base, fun a b x' y' ha hb hab hba => ?_⟩
  by_cases hk : a = i ∧ b = k
  · obtain ⟨rfl, rfl⟩ := hk
    rw [hx] at ha; rw [hy] at hb
    rw [← Option.some.inj ha, ← Option.some.inj hb]; exact hz
  · exact h.seen a b x' y' ha hb (by omega) hba
theorem SpF.row {B : Tm → Prop} {sm : List Tm} {i : Nat} (h : SpF B sm i i) : SpF B sm (i + 1) 0 :=
  ⟨h.nodup, h.clo, h.base, fun a b x y ha hb hab hba => h.seen a b x y ha hb (by omega) hba⟩
theorem SpF.shut {B : Tm → Prop} (hB : ∀ t, B t → tOk t = true) {sm : List Tm} {i : Nat} (h : SpF B sm i 0) (hi : sm.length ≤ i) : ∀ x y, x ∈ sm → y ∈ sm → tJoin x y ∈ sm := fun x y hx hy => by
  obtain ⟨a, ha⟩ := List.mem_iff_getElem?.1 hx
  obtain ⟨b, hb⟩ := List.mem_iff_getElem?.1 hy
  have la := (List.getElem?_eq_some_iff.1 ha).1
  have lb := (List.getElem?_eq_some_iff.1 hb).1
  rcases Nat.lt_trichotomy a b with hab | rfl | hab
  · rw [tJoin_comm]; exact h.seen b a y x hb ha (.inl (by omega)) hab
  · rw [ha] at hb
    rw [← Option.some.inj hb, tJoin_self ((h.clo x hx).ok hB)]; exact hx
  · exact h.seen a b x y ha hb (.inl (by omega)) hab
theorem nodup_len {sm : List Tm} (h : sm.Nodup) (hk : ∀ t ∈ sm, tOk t = true) : sm.length ≤ 64 := by
  have : ∀ (l m : List Tm), l.Nodup → (∀ t ∈ l, t ∈ m) → l.length ≤ m.length := fun l => by
    induction l with
    | nil => intro m _ _; exact Nat.zero_le _
    | cons x l ih =>
      intro m hn hm
      obtain ⟨h1, h2⟩ := List.nodup_cons.1 hn
      have hx := hm x List.mem_cons_self
      have := ih (m.erase x) h2 (fun t ht => (List.mem_erase_of_ne (fun e => h1 (by rw [← e]; exact ht))).2 (hm t (List.mem_cons_of_mem _ ht)))
      rw [List.length_erase_of_mem hx] at this
      have := List.length_pos_of_mem hx
      rw [List.length_cons]; omega
  have := this sm allTm h (fun t ht => mem_allTm (hk t ht))
  rw [allTm_len] at this; exact this
def keyB (l : List Rw) (key : Int) (t : Tm) : Prop := rowsOk l = true ∧ keyT l key t
theorem keyB_ok {l : List Rw} {key : Int} : ∀ t, keyB l key t → tOk t = true := fun t h => keyT_ok (rowsOk_all h.1).2 t h.2
theorem flowTimes_sm {l : List Rw} {key : Int} {sm : List Tm} (h : SpF (keyB l key) sm sm.length 0) : timesL (fun t => decide (t ∈ sm)) = flowTimes l key := by
  have hs := h.shut keyB_ok (Nat.le_refl _)
  cases hr : rowsOk l
  · have : ∀ t, ¬ Clo (keyB l key) t := fun t hc => by
      induction hc with
      | base hb => have := hb.1; rw [hr] at this; cases this
      | join _ _ h _ => exact h
    unfold flowTimes
    rw [hr]
    simp only [Bool.false_eq_true, if_false]
    unfold timesL
    rw [List.filter_eq_nil_iff]
    intro t _ ht
    exact this t (h.clo t (of_decide_eq_true ht))
  · refine flowTimes_of hr (fun t ht => decide_eq_true (h.base t ⟨hr, ht⟩)) (fun t ht => ?_) (fun s t hs' ht' => decide_eq_true (hs s t (of_decide_eq_true hs') (of_decide_eq_true ht')))
    have := h.clo t (of_decide_eq_true ht)
    clear ht
    induction this with
    | base hb => exact .base hb.2
    | join _ _ i1 i2 => exact .join i1 i2
/-- the rows so far: their times, each once -/
structure SpA (P : Tm → Prop) (sm : List Tm) : Prop where
  nodup : sm.Nodup
  iff : ∀ t, t ∈ sm ↔ P t
theorem SpA.had {P P' : Tm → Prop} {sm : List Tm} (h : SpA P sm) (hP : ∀ t, P' t ↔ P t) : SpA P' sm := ⟨h.nodup, fun t => (h.iff t).trans (hP t).symm⟩
theorem SpA.app {P P' : Tm → Prop} {sm : List Tm} (h : SpA P sm) {z : Tm} (hz : z ∉ sm) (hP : ∀ t, P' t ↔ (P t ∨ t = z)) : SpA P' (sm ++ [z]) := by
  refine ⟨?_, fun t => ?_⟩
  · exact nodup_snoc h.nodup hz
  · rw [hP, ← h.iff, List.mem_append, List.mem_singleton]
theorem keyT_snoc {l : List Rw} {k : Nat} {x : Rw} (hx : l[k]? = some x) (key : Int) (t : Tm) : keyT (l.take (k + 1)) key t ↔ (keyT (l.take k) key t ∨ (x.f0 = key ∧ t = x.f2)) := by
  unfold keyT
  rw [take_snoc hx]
  constructor
  · rintro ⟨r, hr, h1, h2⟩
    rcases List.mem_append.1 hr with hr | hr
    · exact .inl ⟨r, hr, h1, h2⟩
    · rw [List.mem_singleton.1 hr] at h1 h2; exact .inr ⟨h1, h2.symm⟩
  · rintro (⟨r, hr, h1, h2⟩ | ⟨h1, h2⟩)
    · exact ⟨r, List.mem_append.2 (.inl hr), h1, h2⟩
    · exact ⟨x, List.mem_append.2 (.inr (List.mem_singleton.2 rfl)), h1, h2.symm⟩
def keyP (l : List Rw) (key : Int) (k : Nat) (t : Tm) : Prop := rowsOk l = true ∧ keyT (l.take k) key t
theorem keyP_zero {l : List Rw} {key : Int} : SpA (keyP l key 0) [] := ⟨List.Pairwise.nil, fun t => ⟨fun h => (by cases h), fun ⟨_, r, hr, _⟩ => (by cases hr)⟩⟩
theorem keyP_bad {l : List Rw} {key : Int} {k : Nat} (hs : rowsOk l = false) (t : Tm) : keyB l key t ↔ keyP l key k t := by
  unfold keyB keyP
  rw [hs]
  exact ⟨fun h => (by cases h.1), fun h => (by cases h.1)⟩
theorem keyP_same {l : List Rw} {key : Int} {k : Nat} {x : Rw} (hx : l[k]? = some x) (hk : ¬ x.f0 = key) (t : Tm) : keyP l key (k + 1) t ↔ keyP l key k t := by
  unfold keyP
  rw [keyT_snoc hx]
  exact ⟨fun ⟨a, b⟩ => ⟨a, b.elim id (fun c => absurd c.1 hk)⟩, fun ⟨a, b⟩ => ⟨a, .inl b⟩⟩
theorem keyP_had {l : List Rw} {key : Int} {k : Nat} {x : Rw} (hx : l[k]? = some x) (hm : keyP l key k x.f2) (t : Tm) : keyP l key (k + 1) t ↔ keyP l key k t := by
  unfold keyP at hm ⊢
  rw [keyT_snoc hx]
  exact ⟨fun ⟨a, b⟩ => b.elim (fun c => ⟨a, c⟩) (fun c => by rw [c.2]; exact hm), fun ⟨a, b⟩ => ⟨a, .inl b⟩⟩
theorem keyP_add {l : List Rw} {key : Int} {k : Nat} {x : Rw} (hx : l[k]? = some x) (hs : rowsOk l = true) (hk : x.f0 = key) (t : Tm) : keyP l key (k + 1) t ↔ (keyP l key k t ∨ t = x.f2) := by
  unfold keyP
  rw [keyT_snoc hx]
  exact ⟨fun ⟨a, b⟩ => b.elim (fun c => .inl ⟨a, c⟩) (fun c => .inr c.2), fun h => h.elim (fun c => ⟨c.1, .inl c.2⟩) (fun c => ⟨hs, .inr ⟨hk, c⟩⟩)⟩
theorem keyP_end {l : List Rw} {key : Int} (t : Tm) : keyB l key t ↔ keyP l key l.length t := by unfold keyP keyB; rw [List.take_length]
set_option maxRecDepth 100000 in
set_option maxHeartbeats 8000000 in
theorem spec_FlowTimes (v : Value) (l : List Rw) (key : Int) (w : World) (h : Sl kRw w v l) : Calls Try.prog 16 #[v, .int .i64 key] w (RetR kTm 32 w (flowTimes l key)) := by
  have HS := Aside0.mk h
  obtain ⟨A, c_, rfl, HC, hr⟩ := h
  have hm := Kd.C_max hr
  have HR := Aside0.mk hr
  clear hr
  have HN := Aside0.mk (R_none (d := kTm) (e := 32) (base := w.heap.size) (ok := okT) (blk_new w (.cells #[] 32)) (Nat.le_refl _) trivial)
  have HB := Aside0.mk (Below.refl w.heap.size w)
  go_enter Try.func16, Try.ntmps16
  replace HB := Aside0.mk (below_alloc HB.out (.cells #[] 32))
  go_upto_block 0 with fail
  go_cut [5] (fun o wc => ∃ sm, Aside0 (SpA (keyB l key) sm) ∧ Aside0 (kTm.R 32 wc w.heap.size okT o sm) ∧ Aside0 (Below w.heap.size w wc))
  case first =>
    go_wp2
    go_loopw [5, 6] (fun o i wr => ∃ (k : Nat) (sm : List Tm), k ≤ l.length ∧ i = .int .i64 k ∧ sm.length ≤ k ∧ Aside0 (SpA (keyP l key k) sm) ∧ Aside0 (kTm.R 32 wr w.heap.size okT o sm) ∧ Aside0 (Below w.heap.size w wr)) (fun _ i _ => l.length - (intOf i).toNat)
    case atStart => exact ⟨0, [], Nat.zero_le _, rfl, Nat.le_refl _, ⟨keyP_zero⟩, HN, HB⟩
    case round =>
      clear HN HB
      obtain ⟨k, sm, hk, rfl, hsl, HA, HO, HB⟩ := hrel
      by_cases hlt : k < l.length
      · cases hs : rowsOk l
        · have HSF := Aside0.mk hs
          go_wp2_with (go_at_call 17; ((with_reducible refine (spec_RowsOk _ l _ (HS.out.below HB.out)).mono ?_); rintro e w' ⟨rfl, hb⟩; replace HB := Aside0.mk (bthen HB.out hb); replace HO := Aside0.mk (Kd.R_below HO.out hb); clear hb))
          go_meet
          case rel => exact ⟨sm, ⟨HA.out.had (keyP_bad HSF.out)⟩, HO, HB⟩
        · have HSF := Aside0.mk hs
          have hl4 := (rowsOk_all hs).1
          obtain ⟨ad, x, e, HX, h0, h1, h2, h3, h4⟩ := rdRw HR.out HB.out hlt
          cases e
          cases hk0 : (x.f0 == key)
          · have HK := Aside0.mk hk0
            have hkn : ¬ x.f0 = key := by simpa using hk0
            have HKN := Aside0.mk hkn
            clear hkn
            go_wp2_with (go_at_call 17; ((with_reducible refine (spec_RowsOk _ l _ (HS.out.below HB.out)).mono ?_); rintro e w' ⟨rfl, hb⟩; replace HB := Aside0.mk (bthen HB.out hb); replace HO := Aside0.mk (Kd.R_below HO.out hb); replace h0 := pw_cell_below hb h0; replace h2 := pw_cell_below hb h2; replace h3 := pw_cell_below hb h3; clear hb))
            go_roundw
            case rel => exact ⟨k + 1, sm, by omega, by go_num, by omega, ⟨HA.out.had (keyP_same HX.out HKN.out)⟩, HO, HB⟩
            case measure => simp [intOf]; omega
          · have HKE := Aside0.mk (show x.f0 = key by simpa using hk0)
            cases hd : decide (x.f2 ∈ sm)
            · have HD := Aside0.mk (of_decide_eq_false hd)
              go_wp2_with (first
                | (go_at_call 17; ((with_reducible refine (spec_RowsOk _ l _ (HS.out.below HB.out)).mono ?_); rintro e w' ⟨rfl, hb⟩; replace HB := Aside0.mk (bthen HB.out hb); replace HO := Aside0.mk (Kd.R_below HO.out hb); replace h0 := pw_cell_below hb h0; replace h2 := pw_cell_below hb h2; replace h3 := pw_cell_below hb h3; clear hb))
                | (go_at_call 70; ((with_reducible refine (spec_l11Has _ sm x.f2 _ (Sl.of_R HO.out)).mono ?_); rintro e w' ⟨rfl, hb⟩; replace HB := Aside0.mk (bthen HB.out hb); replace HO := Aside0.mk (Kd.R_below HO.out hb); replace h2 := pw_cell_below hb h2; replace h3 := pw_cell_below hb h3; clear hb))
                | (at_builtin; refine appTm (w0 := w) (base := w.heap.size) (xs := sm) (ok := okT) rfl rfl rfl HO.out (fun _ _ => trivial) HB.out (by have := HB.out.size; omega) (by omega) ?_; intro v1 w1 hr1 hb1 hg1 ha1; have HO2 := Aside0.mk hr1; have HG_ := Aside0.mk hg1; replace HB := Aside0.mk hb1; clear hr1 hb1 hg1 ha1))
              go_roundw
              case rel => exact ⟨k + 1, sm ++ [x.f2], by omega, by go_num, by rw [List.length_append, List.length_singleton]; omega, ⟨HA.out.app HD.out (keyP_add HX.out HSF.out HKE.out)⟩, HO2, HB⟩
              case measure => simp [intOf]; omega
            · have HD := Aside0.mk (of_decide_eq_true hd)
              go_wp2_with (first
                | (go_at_call 17; ((with_reducible refine (spec_RowsOk _ l _ (HS.out.below HB.out)).mono ?_); rintro e w' ⟨rfl, hb⟩; replace HB := Aside0.mk (bthen HB.out hb); replace HO := Aside0.mk (Kd.R_below HO.out hb); replace h0 := pw_cell_below hb h0; replace h2 := pw_cell_below hb h2; replace h3 := pw_cell_below hb h3; clear hb))
                | (go_at_call 70; ((with_reducible refine (spec_l11Has _ sm x.f2 _ (Sl.of_R HO.out)).mono ?_); rintro e w' ⟨rfl, hb⟩; replace HB := Aside0.mk (bthen HB.out hb); replace HO := Aside0.mk (Kd.R_below HO.out hb); clear hb)))
              go_roundw
              case rel => exact ⟨k + 1, sm, by omega, by go_num, by omega, ⟨HA.out.had (keyP_had HX.out ((HA.out.iff _).1 HD.out))⟩, HO, HB⟩
              case measure => simp [intOf]; omega
      · obtain rfl : k = l.length := by omega
        go_wp2
        go_meet
        case rel => exact ⟨sm, ⟨HA.out.had keyP_end⟩, HO, HB⟩
  case rest =>
    clear HN HB
    obtain ⟨sm, HA, HO, HB⟩ := hcut
    have HF0 : Aside0 (SpF (keyB l key) sm 0 0) := ⟨⟨HA.out.nodup, fun t ht => .base ((HA.out.iff t).1 ht), fun t ht => (HA.out.iff t).2 ht, fun a b x y _ _ h1 h2 => by omega⟩⟩
    clear HA
    go_at_K
    go_wp2
    go_loopw [5, 7] (fun o i wr => ∃ (k : Nat) (sm : List Tm), k ≤ sm.length ∧ i = .int .i64 k ∧ Aside0 (SpF (keyB l key) sm k 0) ∧ Aside0 (kTm.R 32 wr w.heap.size okT o sm) ∧ Aside0 (Below w.heap.size w wr)) (fun _ i _ => 64 - (intOf i).toNat)
    case atStart => exact ⟨0, sm, Nat.zero_le _, rfl, HF0, HO, HB⟩
    case round =>
      clear HF0 HO HB
      obtain ⟨k, sm, hk, rfl, HF, HO, HB⟩ := hrel
      have hl64 := nodup_len HF.out.nodup (fun t ht => (HF.out.clo t ht).ok keyB_ok)
      obtain ⟨A3, c3, rfl, hc3, hC3⟩ := Sl.of_R HO.out
      clear hC3
      by_cases hlt : k < sm.length
      · go_wp2
        go_loopw [5, 8] (fun o i wr => ∃ (m : Nat) (sm : List Tm), m ≤ k ∧ i = .int .i64 m ∧ k < sm.length ∧ Aside0 (SpF (keyB l key) sm k m) ∧ Aside0 (kTm.R 32 wr w.heap.size okT o sm) ∧ Aside0 (Below w.heap.size w wr)) (fun _ i _ => k - (intOf i).toNat)
        case atStart => exact ⟨0, sm, Nat.zero_le _, rfl, hlt, HF, HO, HB⟩
        case round =>
          clear HF HO HB
          obtain ⟨m, sm, hm, rfl, hks, HF, HO, HB⟩ := hrel
          have hl64 := nodup_len HF.out.nodup (fun t ht => (HF.out.clo t ht).ok keyB_ok)
          obtain ⟨A4, c4, rfl, hc4, hC4⟩ := Sl.of_R HO.out
          clear hC4
          by_cases hlt2 : m < k
          · obtain ⟨ad, x, e, HX, h0, h1⟩ := rdTm (Kd.R_reads' HO.out).2.2 (Below.refl _ _) hks
            cases e
            obtain ⟨ad', y, e, HY, i0, i1⟩ := rdTm (Kd.R_reads' HO.out).2.2 (Below.refl _ _) (show m < sm.length by omega)
            cases e
            have hcz := Aside0.mk (Clo.join (HF.out.clo x (List.mem_of_getElem? HX.out)) (HF.out.clo y (List.mem_of_getElem? HY.out)))
            obtain ⟨z, hz⟩ : ∃ z, z = tJoin x y := ⟨_, rfl⟩
            have TJ : ∀ W, Calls Try.prog 71 #[.agg #[.int .i64 x.f0, .int .i64 x.f1], .agg #[.int .i64 y.f0, .int .i64 y.f1]] W (RetV W (.agg #[.int .i64 z.f0, .int .i64 z.f1])) := fun W => by rw [hz]; exact spec_TimeJoin x.f0 x.f1 y.f0 y.f1 W
            have HZ := Aside0.mk hz
            clear hz
            have hms : m < sm.length := by omega
            have d0 : wr.drew.cell? (ad.add (k * 2)) = some (.int .i64 x.f0) := h0
            have d1 : wr.drew.cell? ⟨(ad.add (k * 2)).block, (ad.add (k * 2)).off + 1, none⟩ = some (.int .i64 x.f1) := h1
            have e0 : wr.drew.cell? (ad.add (m * 2)) = some (.int .i64 y.f0) := i0
            have e1 : wr.drew.cell? ⟨(ad.add (m * 2)).block, (ad.add (m * 2)).off + 1, none⟩ = some (.int .i64 y.f1) := i1
            go_upto_region 13 with fail
            go_cut [9] from 55 to 76 (fun q wc => ∃ X, q = .pointer (some ⟨X, 0, none⟩) ∧ Aside0 (wc.heap[X]? = some (.cells #[.int .i64 z.f0, .int .i64 z.f1] 32 (0, 0))) ∧ Aside0 (kTm.R 32 wc w.heap.size okT (.slice (some ad) sm.length c4) sm) ∧ Aside0 (Below w.heap.size w wc))
            case first =>
              have hww := HB.out.size
              have HO1 := Aside0.mk (R_new (ok' := fun q => q ≠ wr.heap.size) HO.out (X := wr.heap.size) (Nat.le_refl _) (fun q _ h => by omega))
              have a0 : (wr.alloc (.cells #[.int .i64 0, .int .i64 0] 32)).drew.cell? (ad.add (k * 2)) = some (.int .i64 x.f0) := pw_cell_below (w := wr) (below_alloc (Below.refl _ _) _) h0
              have a1 : (wr.alloc (.cells #[.int .i64 0, .int .i64 0] 32)).drew.cell? ⟨(ad.add (k * 2)).block, (ad.add (k * 2)).off + 1, none⟩ = some (.int .i64 x.f1) := pw_cell_below (w := wr) (below_alloc (Below.refl _ _) _) h1
              have a2 : (wr.alloc (.cells #[.int .i64 0, .int .i64 0] 32)).drew.cell? (ad.add (m * 2)) = some (.int .i64 y.f0) := pw_cell_below (w := wr) (below_alloc (Below.refl _ _) _) i0
              have a3 : (wr.alloc (.cells #[.int .i64 0, .int .i64 0] 32)).drew.cell? ⟨(ad.add (m * 2)).block, (ad.add (m * 2)).off + 1, none⟩ = some (.int .i64 y.f1) := pw_cell_below (w := wr) (below_alloc (Below.refl _ _) _) i1
              go_region_held3 (fun w' => w'.cell? (ad.add (k * 2)) = some (.int .i64 x.f0) ∧ w'.cell? ⟨(ad.add (k * 2)).block, (ad.add (k * 2)).off + 1, none⟩ = some (.int .i64 x.f1) ∧ w'.cell? (ad.add (m * 2)) = some (.int .i64 y.f0) ∧ w'.cell? ⟨(ad.add (m * 2)).block, (ad.add (m * 2)).off + 1, none⟩ = some (.int .i64 y.f1))
                (first | exact ⟨h0, h1, i0, i1⟩ | exact ⟨d0, d1, e0, e1⟩ | exact ⟨a0, a1, a2, a3⟩ | exact ⟨C0, C1, C2, C3⟩ | exact ⟨pw_cell_below (below_alloc (Below.refl _ _) _) C0, pw_cell_below (below_alloc (Below.refl _ _) _) C1, pw_cell_below (below_alloc (Below.refl _ _) _) C2, pw_cell_below (below_alloc (Below.refl _ _) _) C3⟩ | exact ⟨pw_cell_below (below_set (below_set HW5.out (Nat.le_refl _)) (Nat.le_refl _)) h0, pw_cell_below (below_set (below_set HW5.out (Nat.le_refl _)) (Nat.le_refl _)) h1, pw_cell_below (below_set (below_set HW5.out (Nat.le_refl _)) (Nat.le_refl _)) i0, pw_cell_below (below_set (below_set HW5.out (Nat.le_refl _)) (Nat.le_refl _)) i1⟩)
                (first
                  | (go_at_call 71; ((with_reducible refine (TJ wr.drew).mono ?_); rintro e w5 ⟨rfl, hb⟩; have HW5 := Aside0.mk (bthen (below_drew (Below.refl wr.heap.size wr)) hb); have C0 := pw_cell_below hb d0; have C1 := pw_cell_below hb d1; have C2 := pw_cell_below hb e0; have C3 := pw_cell_below hb e1))
                  | (go_at_call 71; ((with_reducible refine (TJ (wr.alloc (.cells #[.int .i64 0, .int .i64 0] 32)).drew).mono ?_); rintro e w5 ⟨rfl, hb⟩; have HW5 := Aside0.mk (bthen (below_drew (below_alloc (Below.refl wr.heap.size wr) (.cells #[.int .i64 0, .int .i64 0] 32))) hb); have C0 := pw_cell_below hb a0; have C1 := pw_cell_below hb a1; have C2 := pw_cell_below hb a2; have C3 := pw_cell_below hb a3; have HBX := Aside0.mk (blk_below (show (wr.alloc (.cells #[.int .i64 0, .int .i64 0] 32)).drew.heap[wr.heap.size]? = _ from blk_new wr _) hb); have b0 := blk_cell HBX.out 0; have b1 := blk_cell HBX.out 1; have f0 := blk_fz HBX.out 0; have f1 := blk_fz HBX.out 1)))
              all_goals
                go_wp2
                go_meet
              all_goals
                first
                  | exact ⟨w5.heap.size, rfl, ⟨blk_new w5 _⟩, ⟨R_alloc (Kd.R_below (R_drew HO.out) hb) _⟩, ⟨below_alloc (bthen (below_drew HB.out) hb) _⟩⟩
                  | exact ⟨wr.heap.size, rfl, ⟨blk2 HBX.out _ _⟩, ⟨Kd.R_mono (Kd.R_far (Kd.R_far (Kd.R_below (R_drew (R_alloc HO1.out _)) hb) (fun q hq => hq) _) (fun q hq => hq) _) (fun _ _ => trivial)⟩, ⟨below_set (below_set (bthen (below_drew (below_alloc HB.out _)) hb) hww) hww⟩⟩
            case rest =>
              clear HO HB h0 h1 i0 i1 d0 d1 e0 e1 TJ
              obtain ⟨X, rfl, HXB, HO, HB⟩ := hcut
              have k0 := blk_cell HXB.out 0
              have k1 := blk_cell HXB.out 1
              clear HXB
              go_at_K
              cases hd : decide (z ∈ sm)
              · have HD := Aside0.mk (of_decide_eq_false hd)
                go_wp2_with (first
                  | (go_at_call 70; ((with_reducible refine (spec_l11Has _ sm z _ (Sl.of_R HO.out)).mono ?_); rintro e w' ⟨rfl, hb⟩; replace HB := Aside0.mk (bthen HB.out hb); replace HO := Aside0.mk (Kd.R_below HO.out hb); replace k0 := pw_cell_below hb k0; replace k1 := pw_cell_below hb k1; clear hb))
                  | (at_builtin; refine appTm (w0 := w) (base := w.heap.size) (xs := sm) (ok := okT) rfl rfl rfl HO.out (fun _ _ => trivial) HB.out (by have := HB.out.size; omega) (by omega) ?_; intro v1 w1 hr1 hb1 hg1 ha1; have HO2 := Aside0.mk hr1; have HG_ := Aside0.mk hg1; replace HB := Aside0.mk hb1; clear hr1 hb1 hg1 ha1))
                go_roundw
                case rel => exact ⟨m + 1, sm ++ [z], by omega, by go_num, by rw [List.length_append, List.length_singleton]; omega, ⟨(HF.out.app hks HD.out (HZ.out ▸ hcz.out)).next (by rw [List.getElem?_append_left hks]; exact HX.out) (by rw [List.getElem?_append_left (by omega)]; exact HY.out) (by rw [← HZ.out]; exact List.mem_append.2 (.inr (List.mem_singleton.2 rfl)))⟩, HO2, HB⟩
                case measure => simp [intOf]; omega
              · have HD := Aside0.mk (of_decide_eq_true hd)
                go_wp2_with (go_at_call 70; ((with_reducible refine (spec_l11Has _ sm z _ (Sl.of_R HO.out)).mono ?_); rintro e w' ⟨rfl, hb⟩; replace HB := Aside0.mk (bthen HB.out hb); replace HO := Aside0.mk (Kd.R_below HO.out hb); clear hb))
                go_roundw
                case rel => exact ⟨m + 1, sm, by omega, by go_num, hks, ⟨HF.out.next HX.out HY.out (by rw [← HZ.out]; exact HD.out)⟩, HO, HB⟩
                case measure => simp [intOf]; omega
          · obtain rfl : m = k := by omega
            go_wp2
            go_roundw
            case rel => exact ⟨m + 1, sm, by omega, by go_num, ⟨HF.out.row⟩, HO, HB⟩
            case measure => simp [intOf]; omega
      · obtain rfl : k = sm.length := by omega
        have HFT := Aside0.mk (flowTimes_sm HF.out)
        have HSM := Aside0.mk (Sl.of_R HO.out)
        clear HF HO
        rename World => Wf
        have HN := Aside0.mk (R_none (d := kTm) (e := 32) (base := Wf.heap.size) (ok := okT) (blk_new Wf (.cells #[] 32)) (Nat.le_refl _) trivial)
        have hwf := HB.out.size
        have HBF := HB
        replace HB := Aside0.mk (below_alloc (Below.refl Wf.heap.size Wf) (.cells #[] 32))
        go_wp2
        go_loopw [10, 11] (fun o i wr => ∃ (k : Nat), k ≤ 8 ∧ i = .int .i64 k ∧ Aside0 (kTm.R 32 wr Wf.heap.size okT o ((allTm.take (8 * k)).filter (fun t => decide (t ∈ sm)))) ∧ Aside0 (Below Wf.heap.size Wf wr)) (fun _ i _ => 8 - (intOf i).toNat)
        case atStart => exact ⟨0, Nat.zero_le _, rfl, HN, HB⟩
        case round =>
          clear HB HN
          obtain ⟨k, hk, rfl, HO, HB⟩ := hrel
          by_cases hlt : k < 8
          · have hlt' : (k : Int) ≤ 7 := by omega
            go_wp2
            go_loopw [10, 12] (fun o i wr => ∃ (j : Nat), j ≤ 8 ∧ i = .int .i64 j ∧ Aside0 (kTm.R 32 wr Wf.heap.size okT o ((allTm.take (8 * k + j)).filter (fun t => decide (t ∈ sm)))) ∧ Aside0 (Below Wf.heap.size Wf wr)) (fun _ i _ => 8 - (intOf i).toNat)
            case atStart => exact ⟨0, Nat.zero_le _, rfl, HO, HB⟩
            case round =>
              clear HO HB
              obtain ⟨j, hj, rfl, HO, HB⟩ := hrel
              have hpl := timesL_len (fun t => decide (t ∈ sm)) (8 * k + j)
              by_cases hlt2 : j < 8
              · have hlt3 : (j : Int) ≤ 7 := by omega
                have hsn := Aside0.mk (timesL_snoc (fun t => decide (t ∈ sm)) hlt hlt2)
                cases hS : decide ((⟨(k : Int), (j : Int)⟩ : Tm) ∈ sm)
                · have HS2 := Aside0.mk hS
                  go_wp2_with (go_at_call 70; ((with_reducible refine (spec_l11Has (.slice A3 sm.length c3) sm ⟨(k : Int), (j : Int)⟩ _ (HSM.out.below HB.out)).mono ?_); rintro e w' ⟨rfl, hb⟩; replace HB := Aside0.mk (bthen HB.out hb); replace HO := Aside0.mk (Kd.R_below HO.out hb); clear hb))
                  go_roundw
                  case rel => exact ⟨j + 1, by omega, by go_num, ⟨by rw [← Nat.add_assoc, hsn.out, HS2.out]; simpa using HO.out⟩, HB⟩
                  case measure => simp [intOf]; omega
                · have HS2 := Aside0.mk hS
                  go_wp2_with (first
                    | (go_at_call 70; ((with_reducible refine (spec_l11Has (.slice A3 sm.length c3) sm ⟨(k : Int), (j : Int)⟩ _ (HSM.out.below HB.out)).mono ?_); rintro e w' ⟨rfl, hb⟩; replace HB := Aside0.mk (bthen HB.out hb); replace HO := Aside0.mk (Kd.R_below HO.out hb); clear hb))
                    | (at_builtin; refine appTm (w0 := Wf) (base := Wf.heap.size) (xs := (allTm.take (8 * k + j)).filter (fun t => decide (t ∈ sm))) (ok := okT) rfl rfl rfl HO.out (fun _ _ => trivial) HB.out (by have := HB.out.size; omega) (by omega) ?_; intro v1 w1 hr1 hb1 hg1 ha1; have HO2 := Aside0.mk hr1; replace HB := Aside0.mk hb1; clear hr1 hb1 hg1 ha1))
                  go_roundw
                  case rel => exact ⟨j + 1, by omega, by go_num, ⟨by rw [← Nat.add_assoc, hsn.out, HS2.out]; exact HO2.out⟩, HB⟩
                  case measure => simp [intOf]; omega
              · obtain rfl : j = 8 := by omega
                go_wp2
                go_roundw
                case rel => exact ⟨k + 1, by omega, by go_num, ⟨by rw [Nat.mul_add]; exact HO.out⟩, HB⟩
                case measure => simp [intOf]; omega
          · obtain rfl : k = 8 := by omega
            rw [List.take_of_length_le (by rw [allTm_len]; omega)] at HO
            go_wp2
            go_ret
            exact RetR.mk (by rw [← HFT.out]; exact Kd.R_lower HO.out hwf) (bthen HBF.out HB.out)
end Go.Proofs.Ytdppnipodndcpaa.X
