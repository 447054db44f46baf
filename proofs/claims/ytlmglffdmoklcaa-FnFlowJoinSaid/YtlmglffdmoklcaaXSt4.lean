/- The walks of the aggregates of collections, and of the negation. Conditions: none. -/
import Derived.Test.YtlmglffdmoklcaaXSt3
namespace Go.Proofs.Ytlmglffdmoklcaa.X
open Go.RowKit Go.Proofs.YtlmglffdmoklcaaW.PrintWords
set_option linter.unusedVariables false
set_option linter.unusedSimpArgs false

def oneI (x : It) : It := ⟨x.f0, x.f1, 1⟩
/-- one copy of what there is -/
def onceL (s : List It) : List It := (s.filter fun x => decide (0 < x.f2)).map oneI
theorem onceL_snoc {s : List It} {k : Nat} {x : It} (hx : s[k]? = some x) : onceL (s.take (k + 1)) = onceL (s.take k) ++ (if 0 < x.f2 then [oneI x] else []) := by
  rw [take_snoc hx]; unfold onceL; rw [List.filter_append, List.map_append]
  by_cases h : 0 < x.f2 <;> simp [h]
theorem onceL_len (s : List It) : (onceL s).length ≤ s.length := by unfold onceL; rw [List.length_map]; exact List.length_filter_le _ _
/-- the first of each run of a key; p: the key that was last -/
def leastF (p : Option Int) : List It → List It
  | [] => []
  | x :: l => if p = some x.f0 then leastF p l else x :: leastF (some x.f0) l
def lastK (p : Option Int) : List It → Option Int
  | [] => p
  | x :: l => lastK (some x.f0) l
theorem leastF_len : ∀ (l : List It) (p : Option Int), (leastF p l).length ≤ l.length
  | [], p => by simp [leastF]
  | x :: l, p => by
    rw [leastF]
    have h1 := leastF_len l p
    have h2 := leastF_len l (some x.f0)
    split <;> simp <;> omega
theorem leastF_snoc : ∀ (l : List It) (p : Option Int) (x : It), leastF p (l ++ [x]) = leastF p l ++ (if lastK p l = some x.f0 then [] else [x])
  | [], p, x => rfl
  | y :: l, p, x => by
    rw [List.cons_append, leastF, leastF, lastK]
    by_cases h : p = some y.f0
    · rw [if_pos h, if_pos h, leastF_snoc l p x, h]
    · rw [if_neg h, if_neg h, leastF_snoc l _ x, List.cons_append]
theorem lastK_snoc : ∀ (l : List It) (p : Option Int) (x : It), lastK p (l ++ [x]) = some x.f0
  | [], p, x => rfl
  | y :: l, p, x => by rw [List.cons_append, lastK, lastK_snoc l _ x]
theorem lastK_take {l : List It} : ∀ {k : Nat}, k ≤ l.length → lastK none (l.take k) = ((leastF none (l.take k)).getLast?).map (·.f0)
  | 0, _ => by simp [lastK, leastF]
  | k + 1, h => by
    have ih := lastK_take (l := l) (k := k) (by omega)
    obtain ⟨x, hx⟩ : ∃ x, l[k]? = some x := ⟨_, List.getElem?_eq_getElem (by omega)⟩
    rw [take_snoc hx, lastK_snoc, leastF_snoc]
    split
    · rename_i hl
      rw [List.append_nil, ← ih, hl]
    · simp
def leastL (s : List It) : List It := leastF none (onceL s)
def setOnce (s : List It) : List It := if setOk s then onceL s else []
def setLeast (s : List It) : List It := if setOk s then leastL s else []
set_option maxRecDepth 100000 in
set_option maxHeartbeats 2000000 in
theorem impl_once (v : Value) (s : List It) (w : World) (h : Sl kIt w v s) (hl1 : s.length ≤ 100000) : Calls Try.prog 159 #[v] w (RetR kIt 93 w (onceL s)) := by
  obtain ⟨A, c_, rfl, HC, hr⟩ := h
  have hm := Kd.C_max hr
  have HR := Aside0.mk hr
  clear hr
  have HB := Aside0.mk (Below.refl w.heap.size w)
  go_enter Try.func159, Try.ntmps159
  go_wp2
  go_loopw [3, 9] (fun o i wr => ∃ (k : Nat), k ≤ s.length ∧ i = .int .i64 k ∧ Aside0 (kIt.R 93 wr w.heap.size okT o (onceL (s.take k))) ∧ Aside0 (Below w.heap.size w wr)) (fun _ i _ => s.length - (intOf i).toNat)
  case atStart => exact ⟨0, Nat.zero_le _, rfl, ⟨R_none (blk_new w _) (Nat.le_refl _) trivial⟩, ⟨below_alloc HB.out _⟩⟩
  case round =>
    clear HB
    obtain ⟨k, hk, rfl, HO, HB⟩ := hrel
    by_cases hlt : k < s.length
    · obtain ⟨ad, x, e, HX, h0, h1, h2⟩ := rdIt HR.out HB.out hlt
      cases e
      have hws := HB.out.size
      have hpl : (onceL (s.take k)).length ≤ k := Nat.le_trans (onceL_len _) (by rw [List.length_take]; omega)
      by_cases hp : 0 < x.f2
      · go_upto_region 5 with fail
        refine name_world fun W hW => ?_
        have B0 : W.heap[wr.heap.size]? = some (.cells #[.int .i64 x.f0, .int .i64 x.f1, .int .i64 x.f2] 93 (0, 0)) := by rw [hW]; exact blk_new wr _
        have hb1 : Below wr.heap.size wr W := by rw [hW]; repeat (first | exact Below.refl _ _ | apply below_alloc | refine below_set ?_ (by simp))
        clear hW
        generalize hX : wr.heap.size = X at B0 ⊢
        replace HB := Aside0.mk (bthen HB.out hb1)
        have HO1 := Aside0.mk (Kd.R_below HO.out hb1)
        have b0 := blk_cell B0 0
        have b1 := blk_cell B0 1
        have b2 := blk_cell B0 2
        clear h0 h1 h2 hb1 hX HO
        go_wp2_with (at_builtin; refine appIt (w0 := w) (base := w.heap.size) (xs := onceL (s.take k)) (ok := okT) rfl rfl rfl HO1.out (fun _ _ => trivial) HB.out (by have := HB.out.size; omega) (by omega) ?_; intro v1 w1 hr1 hb1 hg1 ha1; have HO2 := Aside0.mk hr1; have HG_ := Aside0.mk hg1; replace HB := Aside0.mk hb1; clear hr1 hb1 hg1 ha1)
        go_roundw
        case rel => exact ⟨k + 1, by omega, by go_num, ⟨by rw [onceL_snoc HX.out, if_pos hp]; exact HO2.out⟩, HB⟩
        case measure => simp [intOf]; omega
      · go_wp2
        go_roundw
        case rel => exact ⟨k + 1, by omega, by go_num, ⟨by rw [onceL_snoc HX.out, if_neg hp, List.append_nil]; exact Kd.R_alloc HO.out _⟩, ⟨below_alloc HB.out _⟩⟩
        case measure => simp [intOf]; omega
    · obtain rfl : k = s.length := by omega
      rw [List.take_length] at HO
      go_wp2
      go_ret
      exact RetR.mk HO.out HB.out
set_option maxRecDepth 100000 in
set_option maxHeartbeats 2000000 in
theorem impl_leastOf (v : Value) (s : List It) (w : World) (h : Sl kIt w v s) (hl1 : s.length ≤ 100000) : Calls Try.prog 160 #[v] w (RetR kIt 93 w (leastL s)) := by
  have HS := Aside0.mk h
  have hol := onceL_len s
  have HB := Aside0.mk (Below.refl w.heap.size w)
  go_enter Try.func160, Try.ntmps160
  have HN := Aside0.mk (R_none (d := kIt) (e := 93) (base := w.heap.size) (ok := okT) (blk_new w (.cells #[] 93)) (Nat.le_refl _) trivial)
  replace HB := Aside0.mk (below_alloc HB.out (.cells #[] 93))
  unfold leastL
  generalize hos : onceL s = os at *
  go_wp2_with (go_at_call 159; ((with_reducible refine (impl_once _ s _ (HS.out.below HB.out) hl1).mono ?_); rintro e wb ⟨u, rfl, hr, hb⟩; rw [hos] at hr; obtain ⟨A, c_, rfl, hc, hC⟩ := Sl.of_R hr; have hm := Kd.C_max hC; have HU := Aside0.mk (Kd.R_mono (ok' := fun q => w.heap.size < q ∧ q < wb.heap.size) (Kd.R_bound (Kd.R_lower hr (by simp : w.heap.size + 1 ≤ _))) (fun q hq => ⟨by have := hq.2.1; omega, hq.2.2.1⟩)); replace HU := Aside0.mk (Kd.R_lower HU.out (Nat.le_succ _)); replace HN := Aside0.mk (Kd.R_mono (ok' := fun q => q = w.heap.size ∨ wb.heap.size ≤ q) (Kd.R_below (Kd.R_bound HN.out) hb) (fun q hq => Or.inl (by have h1 := hq.2.1; have h2 := hq.2.2.1; simp at h2; omega))); replace HB := Aside0.mk (bthen HB.out hb); clear hr hb hC))
  have hwb := HB.out.size
  go_loopw [3, 10] (fun o i wr => ∃ (k : Nat), k ≤ os.length ∧ i = .int .i64 k ∧ Aside0 (kIt.R 93 wr w.heap.size (fun q => q = w.heap.size ∨ wb.heap.size ≤ q) o (leastF none (os.take k))) ∧ Aside0 (kIt.R 93 wr w.heap.size (fun q => w.heap.size < q ∧ q < wb.heap.size) (.slice A os.length c_) os) ∧ Aside0 (Below w.heap.size w wr) ∧ wb.heap.size ≤ wr.heap.size) (fun _ i _ => os.length - (intOf i).toNat)
  case atStart => exact ⟨0, Nat.zero_le _, rfl, ⟨by simpa [leastF] using HN.out⟩, HU, HB, Nat.le_refl _⟩
  case round =>
    clear HB HN HU
    obtain ⟨k, hk, rfl, HO, HU, HB, hwr⟩ := hrel
    by_cases hlt : k < os.length
    · obtain ⟨ad, x, e, HX, h0, h1, h2⟩ := rdIt (Kd.R_reads' HU.out).2.2 (Below.refl _ _) hlt
      cases e
      have hws := HB.out.size
      have hpl : (leastF none (os.take k)).length ≤ k := Nat.le_trans (leastF_len _ _) (by rw [List.length_take]; omega)
      have HL := Aside0.mk (lastK_take (l := os) (k := k) (by omega))
      have HSn := Aside0.mk (leastF_snoc (os.take k) none x)
      rw [← take_snoc HX.out] at HSn
      go_upto_region 5 with fail
      refine name_world fun W hW => ?_
      have B0 : W.heap[wr.heap.size]? = some (.cells #[.int .i64 x.f0, .int .i64 x.f1, .int .i64 x.f2] 93 (0, 0)) := by rw [hW]; exact blk_new wr _
      have hb1 : Below wr.heap.size wr W := by rw [hW]; repeat (first | exact Below.refl _ _ | apply below_alloc | refine below_set ?_ (by simp))
      clear hW
      generalize hX : wr.heap.size = X at B0 ⊢
      replace HB := Aside0.mk (bthen HB.out hb1)
      have hwr0 := Nat.le_trans hwr hb1.size
      replace HO := Aside0.mk (Kd.R_below HO.out hb1)
      replace HU := Aside0.mk (Kd.R_below HU.out hb1)
      have b0 : W.cell? ⟨X, 0, none⟩ = some (.int .i64 x.f0) := blk_cell B0 0
      have b1 : W.cell? ⟨X, 1, none⟩ = some (.int .i64 x.f1) := blk_cell B0 1
      have b2 : W.cell? ⟨X, 2, none⟩ = some (.int .i64 x.f2) := blk_cell B0 2
      clear h0 h1 h2 hb1 hX
      generalize leastF none (os.take k) = acc at *
      by_cases hz : acc.length = 0
      · obtain rfl : acc = [] := List.eq_nil_of_length_eq_zero hz
        obtain ⟨A5, c5, e5, _, _⟩ := Sl.of_R HO.out
        cases e5
        refine wp_region_ext (by kernel_rfl) (by kernel_rfl) ?_
        repeat (any_goals (first | go_big_quiet_step (fail) | quiet_step (fail) | (refine wpQuiet_step (fun K hK => ?_); go_simp; split <;> (refine hK _ ?_; clear hK K))))
        all_goals (refine wpQuiet_nil ?_; intro u)
        replace b0 : u.w'.cell? ⟨X, 0, none⟩ = some (.int .i64 x.f0) := pw_cell_below u.bel b0
        replace b1 : u.w'.cell? ⟨X, 1, none⟩ = some (.int .i64 x.f1) := pw_cell_below u.bel b1
        replace b2 : u.w'.cell? ⟨X, 2, none⟩ = some (.int .i64 x.f2) := pw_cell_below u.bel b2
        replace HO := Aside0.mk (Kd.R_below HO.out u.bel)
        replace HU := Aside0.mk (Kd.R_below HU.out u.bel)
        replace HB := Aside0.mk (bthen HB.out u.bel)
        have hws2 := HB.out.size
        have hwr1 := Nat.le_trans hwr0 u.bel.size
        generalize u.w' = W2 at *
        go_wp2_with (at_builtin; (refine appIt (w0 := w) (base := w.heap.size) (xs := ([] : List It)) (ok := fun q => q = w.heap.size ∨ wb.heap.size ≤ q) rfl rfl rfl HO.out (fun q hq => Or.inr (by omega)) HB.out (by omega) (by omega) ?_; intro v1 w1 hr1 hb1 hg1 ha1; have HO2 := Aside0.mk hr1; have HU2 := Aside0.mk (Kd.R_grown HU.out hg1 (fun q hq e => by rcases HO.out.1 q e.symm with e2 | e2 <;> omega)); replace HB := Aside0.mk hb1; have hwr2 := Nat.le_trans hwr1 hg1.size; clear hr1 hb1 hg1 ha1))
        go_roundw
        case rel => exact ⟨k + 1, by omega, by go_num, ⟨by rw [HSn.out, if_neg (by rw [HL.out]; simp)]; exact HO2.out⟩, HU2, HB, hwr2⟩
        case measure => simp [intOf]; omega
      · obtain ⟨A5, c5, e5, hc5, hC5⟩ := Sl.of_R HO.out
        cases e5
        obtain ⟨j, hj⟩ : ∃ j, acc.length = j + 1 := ⟨acc.length - 1, by omega⟩
        obtain ⟨ad2, y, e, HY, i0, i1, i2⟩ := rdIt hC5 (Below.refl _ _) (k := j) (by omega)
        cases e
        clear hC5
        have p0 := fun u => Ext.cell b0 u
        have q0 := fun u => Ext.cell i0 u
        have e1 : IntKind.i64.wrap ((acc.length : Int) - 1) = j := by rw [wrapI]; unfold wrap64; omega
        have e2 : (j : Int) < (acc.length : Int) := by omega
        have e3 : j < acc.length := by omega
        have hzb : ((acc.length : Int) == 0) = false := beq_eq_false_iff_ne.2 (by omega)
        have HJ := Aside0.mk hj
        clear hj
        refine wp_region_ext (by kernel_rfl) (by kernel_rfl) ?_
        repeat (any_goals (first | go_big_quiet_step (fail) | quiet_step (fail) | (refine wpQuiet_step (fun K hK => ?_); go_simp; split <;> (refine hK _ ?_; clear hK K))))
        all_goals (refine wpQuiet_nil ?_; intro u)
        replace b0 : u.w'.cell? ⟨X, 0, none⟩ = some (.int .i64 x.f0) := pw_cell_below u.bel b0
        replace b1 : u.w'.cell? ⟨X, 1, none⟩ = some (.int .i64 x.f1) := pw_cell_below u.bel b1
        replace b2 : u.w'.cell? ⟨X, 2, none⟩ = some (.int .i64 x.f2) := pw_cell_below u.bel b2
        replace HO := Aside0.mk (Kd.R_below HO.out u.bel)
        replace HU := Aside0.mk (Kd.R_below HU.out u.bel)
        replace HB := Aside0.mk (bthen HB.out u.bel)
        have hws2 := HB.out.size
        have hwr1 := Nat.le_trans hwr0 u.bel.size
        clear p0 q0 i0 i1 i2 e1 e2 e3 hzb
        generalize u.w' = W2 at *
        have HLY := Aside0.mk (show (acc.getLast?).map (·.f0) = some y.f0 by rw [List.getLast?_eq_getElem?, HJ.out, Nat.add_sub_cancel, HY.out]; rfl)
        cases hd : (y.f0 == x.f0)
        · have HD := Aside0.mk hd
          go_wp2_with (at_builtin; (refine appIt (w0 := w) (base := w.heap.size) (xs := acc) (ok := fun q => q = w.heap.size ∨ wb.heap.size ≤ q) rfl rfl rfl HO.out (fun q hq => Or.inr (by omega)) HB.out (by omega) (by omega) ?_; intro v1 w1 hr1 hb1 hg1 ha1; have HO2 := Aside0.mk hr1; have HU2 := Aside0.mk (Kd.R_grown HU.out hg1 (fun q hq e => by rcases HO.out.1 q e.symm with e2 | e2 <;> omega)); replace HB := Aside0.mk hb1; have hwr2 := Nat.le_trans hwr1 hg1.size; clear hr1 hb1 hg1 ha1))
          go_roundw
          case rel => exact ⟨k + 1, by omega, by go_num, ⟨by rw [HSn.out, if_neg (by rw [HL.out, HLY.out]; intro e; have := HD.out; simp at this; exact this (Option.some.inj e))]; exact HO2.out⟩, HU2, HB, hwr2⟩
          case measure => simp [intOf]; omega
        · have HD := Aside0.mk hd
          go_wp2
          go_roundw
          case rel => exact ⟨k + 1, by omega, by go_num, ⟨by rw [HSn.out, if_pos (by rw [HL.out, HLY.out]; have := HD.out; simp at this; rw [this]), List.append_nil]; exact HO.out⟩, HU, HB, hwr1⟩
          case measure => simp [intOf]; omega
    · obtain rfl : k = os.length := by omega
      rw [List.take_length] at HO
      go_wp2
      go_ret
      exact RetR.mk (Kd.R_mono HO.out (fun _ _ => trivial)) HB.out
end Go.Proofs.Ytlmglffdmoklcaa.X
