/- The walks of the exact laws' own helpers: they copy, size, compare. Conditions: none. -/
import Derived.Test.YtbbkimgadohdkaaXBase
import Derived.Test.YtbbkimgadohdkaaWKept
namespace Go.Proofs.Ytbbkimgadohdkaa.X
open Go.RowKit Go.Proofs.YtbbkimgadohdkaaW.PrintWords
set_option linter.unusedVariables false
set_option linter.unusedSimpArgs false

set_option maxRecDepth 100000 in
set_option maxHeartbeats 400000 in
theorem laws_toTime (a b : Int) (w : World) : Calls Try.prog 96 #[.agg #[.int .i64 a, .int .i64 b]] w (RetV w (.agg #[.int .i64 a, .int .i64 b])) := by
  have HB := Aside0.mk (Below.refl w.heap.size w)
  go_enter Try.func96, Try.ntmps96
  go_wp2
  all_goals (refine bodyPost_ret (by simp [results, Try.results96, go_sem, *]; rfl) rfl (RetV.mk ?_ (by repeat (first | exact HB.out | apply below_alloc | refine below_set ?_ (by omega)))); rfl)
set_option maxRecDepth 100000 in
set_option maxHeartbeats 400000 in
theorem laws_toRow (x : Rw) (w : World) : Calls Try.prog 77 #[.agg #[.int .i64 x.f0, .int .i64 x.f1, .int .i64 x.f2.f0, .int .i64 x.f2.f1, .int .i64 x.f3]] w (RetV w (.agg #[.int .i64 x.f0, .int .i64 x.f1, .int .i64 x.f2.f0, .int .i64 x.f2.f1, .int .i64 x.f3])) := by
  have HB := Aside0.mk (Below.refl w.heap.size w)
  go_enter Try.func77, Try.ntmps77
  go_wp2_with (go_at_call 96; refine (laws_toTime _ _ _).mono ?_; rintro e w' ⟨rfl, hb⟩; have HG := Aside0.mk (show w'.heap[w.heap.size + 1]? = some (.cells #[.int .i64 0, .int .i64 0, .int .i64 0, .int .i64 0, .int .i64 0] 56 (0, 0)) from blk_below (blk_alloc (blk_two w _ _) _) hb); replace HB := Aside0.mk (bthen (by repeat (first | exact HB.out | apply below_alloc | refine below_set ?_ (by omega))) hb); obtain ⟨hc, hf⟩ := bcell hb)
  refine ret_cell (p := 2) (g := w.heap.size + 1) (cs := #[.int .i64 x.f0, .int .i64 x.f1, .int .i64 x.f2.f0, .int .i64 x.f2.f1, .int .i64 x.f3]) ?_ ?_ ?_ ?_ Try.underlying56 rfl (by kernel_rfl) ?_
  · rfl
  · rfl
  · rfl
  · refine blk5 (z0 := .int .i64 0) (z1 := .int .i64 0) (z2 := .int .i64 0) (z3 := .int .i64 0) (z4 := .int .i64 0) ?_ _ _ _ _ _
    repeat (first | exact HG.out | refine blk_far ?_ (by simp) _)
  · exact RetV.mk rfl (by repeat (with_reducible first | exact HB.out | refine below_set ?_ (by omega) | apply below_alloc))
set_option maxRecDepth 100000 in
set_option maxHeartbeats 1000000 in
theorem laws_toRowS (v : Value) (l : List Rw) (w : World) (h : Sl kRw w v l) (hl : l.length < 7036874416000) : Calls Try.prog 37 #[v] w (RetR kRw 56 w l) := by
  obtain ⟨A, c_, rfl, HC, hr⟩ := h
  have hm := Kd.C_max hr
  have HR := Aside0.mk hr
  clear hr
  have HB := Aside0.mk (Below.refl w.heap.size w)
  go_enter Try.func37, Try.ntmps37
  go_wp2_with (refine makeRw (w0 := w) l.length rfl (N := 7) rfl rfl rfl rfl hl HB.out (Nat.le_refl _) ?_; intro v1 w1 ho hb hg_ hn_; have HO := Aside0.mk ho; replace HB := Aside0.mk hb; clear ho hb hg_ hn_)
  go_loopw [4] (fun i wr => ∃ k : Nat, k ≤ l.length ∧ i = .int .i64 k ∧ Aside0 (kRw.R 56 wr w.heap.size okT v1 (l.take k ++ List.replicate (l.length - k) default)) ∧ Aside0 (Below w.heap.size w wr)) (fun i _ => l.length - (intOf i).toNat)
  case atStart => exact ⟨0, Nat.zero_le _, rfl, by simpa using HO, HB⟩
  case round =>
    obtain ⟨k, hk, rfl, HO1, HB⟩ := hrel
    by_cases hlt : k < l.length
    · obtain ⟨ad, x, e, HX, h0, h1, h2, h3, h4⟩ := rdRw HR.out HB.out hlt
      cases e
      obtain ⟨g, cap, rfl, hg1, hg2⟩ := formR HO1.out (n := l.length) (by simp; omega) (by omega)
      go_wp2_with (first | (go_at_call 77; refine (laws_toRow x _).mono ?_; rintro e w' ⟨rfl, hb⟩; have HO2 := Aside0.mk (Kd.R_below HO1.out hb); replace HB := Aside0.mk (bthen HB.out hb)) | (refine storeEl kRw (w0 := w) (base := w.heap.size) rfl rfl rfl k x (vRw x) rfl rfl rfl (by kernel_rfl) HO2.out hlt (kRw_M.2 rfl) (okp := fun _ => False) (fun _ hq => hq.elim) HB.out ?_; intro w2 ho hb2 hg_; have HO3 := Aside0.mk ho; replace HB := Aside0.mk hb2; clear ho hb2 hg_))
      go_roundw
      case rel => exact ⟨k + 1, by omega, by go_num, ⟨by have := HO3.out; rw [set_next HX.out] at this; exact this⟩, HB⟩
      case measure => simp [intOf]; omega
    · go_wp2
      go_ret
      exact RetR.mk (by have := HO1.out; rw [List.take_of_length_le (by omega), show l.length - k = 0 by omega] at this; simpa using this) HB.out
/-- the mark that stands where the count is k -/
def mark (k : Int) : Rw := ⟨k, k + 1, ⟨k + 2, k + 3⟩, k + 4⟩
def marks (k : Int) (n : Nat) : List Rw := (List.range n).map fun i : Nat => mark (k + 5 * (i : Int))
theorem marks_len (k : Int) (n : Nat) : (marks k n).length = n := by simp [marks]
theorem marks_succ (k : Int) (n : Nat) : marks k (n + 1) = marks k n ++ [mark (k + 5 * (n : Int))] := by simp [marks, List.range_succ]
theorem set_mid {α : Type} (A l : List α) (i : Nat) (y : α) (hA : A.length = i) (hi : i < l.length) : (A ++ l.drop i).set i y = (A ++ [y]) ++ l.drop (i + 1) := by
  subst hA
  rw [List.set_append_right _ _ (Nat.le_refl _), Nat.sub_self, List.drop_eq_getElem_cons hi, List.set_cons_zero, List.append_assoc]
  rfl
theorem wrapM {x y : Int} (h : x = y) (hy : 0 ≤ y ∧ y < 9223372036854775808) : IntKind.i64.wrap x = y := by subst h; exact IntWalk.i64_in _ (by omega)
section
variable {P : Program} {ops : Array Oper} {rest : List Oper} {o : Oper} {a : Act} {Q : Exit → Act → World → Prop}
/-- out[k].f = u, one cell of the element -/
theorem storeF {w0 W : World} {base : Nat} (hN : o.dst = none) (hgd : o.guard = none) {t : TypeId} {p x : Operand} (ho : o.op = .store t p x) {e g n cap o' : Nat} (k j : Nat) {xs : List Rw} (x0 x' : Rw) (u : Int) {ok : Nat → Prop}
    (haddr : a.eval p = .pointer (some ⟨g, o', none⟩)) (hoff : o' = k * 5 + j) (hu : a.eval x = .int .i64 u) (ht : (P.info? t).map (·.size) = some 1)
    (HO : kRw.R e W base ok (.slice (some ⟨g, 0, none⟩) n cap) (xs.set k x0)) (hi : k < n) (hl : k < xs.length) (hj : j < 5) (hx : vRw x' = (vRw x0).take j ++ [.int .i64 u] ++ (vRw x0).drop (j + 1)) (HB : Below base w0 W)
    (h : ∀ w1, kRw.R e w1 base ok (.slice (some ⟨g, 0, none⟩) n cap) (xs.set k x') → Below base w0 w1 → W.grownBy w1 (some g) → wpList P ops Q rest a w1) : wpList P ops Q (o :: rest) a W := by
  obtain ⟨c, hcl, hM, hcc, _⟩ := Kd.R_elem HO x0 (k : Int) (by omega) (by omega)
  simp only [Int.toNat_natCast] at hcc hM
  have e0 : (xs.set k x0).getD k x0 = x0 := by simp [List.getD, List.getElem?_set, hl]
  rw [e0] at hM
  have ec := kRw_M.1 hM
  subst ec
  refine Kd.R_store kRw base hN hgd t p x ho e (k : Int) j _ x' _ [.int .i64 u] (vRw x0) ok (fun _ => False) haddr (by rw [Int.toNat_natCast]; exact hoff) rfl (by rw [hu]; rfl) ht (fun q hq => by simp at hq; subst hq; rfl) HO (by omega) (by omega) hcl (by simpa using hcc) (by show j + 1 ≤ 5; omega) ?_ (fun _ hq => hq.elim) HB (by simpa using h)
  exact kRw_M.2 hx.symm
end
set_option maxRecDepth 100000 in
set_option maxHeartbeats 1000000 in
theorem laws_markRowS (P0 : Nat → Prop) (v : Value) (l : List Rw) (k0 : Int) (w0 w : World) (hB : Below w0.heap.size w0 w) (h : kRw.R 56 w w0.heap.size P0 v l) (hk0 : 0 ≤ k0) (hl : k0 + 5 * (l.length : Int) < 4611686018427387904) : Calls Try.prog 39 #[v, .int .i64 k0] w fun e w' => e = .returned (.int .i64 (k0 + 5 * (l.length : Int))) ∧ kRw.R 56 w' w0.heap.size P0 v (marks k0 l.length) ∧ Below w0.heap.size w0 w' ∧ Kept w w' P0 := by
  have HO := Aside0.mk h
  have HB := Aside0.mk hB
  have HK := Aside0.mk (Kept.refl w P0)
  clear hB h
  obtain ⟨A, c, rfl⟩ := Kd.R_slice HO.out
  go_enter Try.func39, Try.ntmps39
  go_wp2
  go_loopw [1, 5] (fun q i wr => ∃ k : Nat, k ≤ l.length ∧ q = .int .i64 (k0 + 5 * (k : Int)) ∧ i = .int .i64 k ∧ Aside0 (kRw.R 56 wr w0.heap.size P0 (.slice A l.length c) (marks k0 k ++ l.drop k)) ∧ Aside0 (Below w0.heap.size w0 wr) ∧ Aside0 (Kept w wr P0)) (fun _ i _ => l.length - (intOf i).toNat)
  case atStart => exact ⟨0, Nat.zero_le _, by simp, rfl, by simpa [marks] using HO, HB, HK⟩
  case round =>
    obtain ⟨k, hk, rfl, rfl, HO1, HB, HK⟩ := hrel
    by_cases hlt : k < l.length
    · obtain ⟨g, cap, e, hg1, hg2⟩ := formR HO1.out (n := l.length) (by simp [marks_len]; omega) (by omega)
      cases e
      have hlen : (marks k0 k ++ l.drop k).length = l.length := by simp [marks_len]; omega
      have w1 : IntKind.i64.wrap (k0 + 5 * (k : Int) + 1) = k0 + 5 * (k : Int) + 1 := wrapM (by omega) (by omega)
      have w2 : IntKind.i64.wrap (k0 + 5 * (k : Int) + 1 + 1) = k0 + 5 * (k : Int) + 2 := wrapM (by omega) (by omega)
      have w3 : IntKind.i64.wrap (k0 + 5 * (k : Int) + 2 + 1) = k0 + 5 * (k : Int) + 3 := wrapM (by omega) (by omega)
      have w4 : IntKind.i64.wrap (k0 + 5 * (k : Int) + 3 + 1) = k0 + 5 * (k : Int) + 4 := wrapM (by omega) (by omega)
      have w5 : IntKind.i64.wrap (k0 + 5 * (k : Int) + 4 + 1) = k0 + 5 * (k : Int) + 5 := wrapM (by omega) (by omega)
      have hP : P0 g := HO1.out.1 _ rfl
      obtain ⟨x, hx⟩ : ∃ x, x = l[k] := ⟨_, rfl⟩
      have HN := Aside0.mk (show (marks k0 k ++ l.drop k).set k x = marks k0 k ++ l.drop k by rw [set_mid _ _ _ _ (marks_len _ _) hlt, hx, List.append_assoc]; congr 1; exact (List.drop_eq_getElem_cons hlt).symm)
      rw [← HN.out] at HO1
      go_wp2_with (first | (refine storeF (w0 := w0) (base := w0.heap.size) rfl rfl rfl k 0 (x : Rw) (⟨k0 + 5 * (k : Int), x.f1, ⟨x.f2.f0, x.f2.f1⟩, x.f3⟩ : Rw) (k0 + 5 * (k : Int)) (by first | rfl | simp) (by first | rfl | omega) (by first | rfl | (simp [*]; done)) (by kernel_rfl) HO1.out hlt (by omega) (by decide) rfl HB.out ?_; intro wn ho hb2 hg_; have HO2 := Aside0.mk ho; replace HB := Aside0.mk hb2; replace HK := Aside0.mk (Kept.of_grown hg_ HK.out (fun q e_ => .inl (by cases e_; exact hP))); clear ho hb2 hg_) | (refine storeF (w0 := w0) (base := w0.heap.size) rfl rfl rfl k 1 (⟨k0 + 5 * (k : Int), x.f1, ⟨x.f2.f0, x.f2.f1⟩, x.f3⟩ : Rw) (⟨k0 + 5 * (k : Int), k0 + 5 * (k : Int) + 1, ⟨x.f2.f0, x.f2.f1⟩, x.f3⟩ : Rw) (k0 + 5 * (k : Int) + 1) (by first | rfl | simp) (by first | rfl | omega) (by first | rfl | (simp [*]; done)) (by kernel_rfl) HO2.out hlt (by omega) (by decide) rfl HB.out ?_; intro wn ho hb2 hg_; have HO3 := Aside0.mk ho; replace HB := Aside0.mk hb2; replace HK := Aside0.mk (Kept.of_grown hg_ HK.out (fun q e_ => .inl (by cases e_; exact hP))); clear ho hb2 hg_) | (refine storeF (w0 := w0) (base := w0.heap.size) rfl rfl rfl k 2 (⟨k0 + 5 * (k : Int), k0 + 5 * (k : Int) + 1, ⟨x.f2.f0, x.f2.f1⟩, x.f3⟩ : Rw) (⟨k0 + 5 * (k : Int), k0 + 5 * (k : Int) + 1, ⟨k0 + 5 * (k : Int) + 2, x.f2.f1⟩, x.f3⟩ : Rw) (k0 + 5 * (k : Int) + 2) (by first | rfl | simp) (by first | rfl | omega) (by first | rfl | (simp [*]; done)) (by kernel_rfl) HO3.out hlt (by omega) (by decide) rfl HB.out ?_; intro wn ho hb2 hg_; have HO4 := Aside0.mk ho; replace HB := Aside0.mk hb2; replace HK := Aside0.mk (Kept.of_grown hg_ HK.out (fun q e_ => .inl (by cases e_; exact hP))); clear ho hb2 hg_) | (refine storeF (w0 := w0) (base := w0.heap.size) rfl rfl rfl k 3 (⟨k0 + 5 * (k : Int), k0 + 5 * (k : Int) + 1, ⟨k0 + 5 * (k : Int) + 2, x.f2.f1⟩, x.f3⟩ : Rw) (⟨k0 + 5 * (k : Int), k0 + 5 * (k : Int) + 1, ⟨k0 + 5 * (k : Int) + 2, k0 + 5 * (k : Int) + 3⟩, x.f3⟩ : Rw) (k0 + 5 * (k : Int) + 3) (by first | rfl | simp) (by first | rfl | omega) (by first | rfl | (simp [*]; done)) (by kernel_rfl) HO4.out hlt (by omega) (by decide) rfl HB.out ?_; intro wn ho hb2 hg_; have HO5 := Aside0.mk ho; replace HB := Aside0.mk hb2; replace HK := Aside0.mk (Kept.of_grown hg_ HK.out (fun q e_ => .inl (by cases e_; exact hP))); clear ho hb2 hg_) | (refine storeF (w0 := w0) (base := w0.heap.size) rfl rfl rfl k 4 (⟨k0 + 5 * (k : Int), k0 + 5 * (k : Int) + 1, ⟨k0 + 5 * (k : Int) + 2, k0 + 5 * (k : Int) + 3⟩, x.f3⟩ : Rw) (⟨k0 + 5 * (k : Int), k0 + 5 * (k : Int) + 1, ⟨k0 + 5 * (k : Int) + 2, k0 + 5 * (k : Int) + 3⟩, k0 + 5 * (k : Int) + 4⟩ : Rw) (k0 + 5 * (k : Int) + 4) (by first | rfl | simp) (by first | rfl | omega) (by first | rfl | (simp [*]; done)) (by kernel_rfl) HO5.out hlt (by omega) (by decide) rfl HB.out ?_; intro wn ho hb2 hg_; have HO6 := Aside0.mk ho; replace HB := Aside0.mk hb2; replace HK := Aside0.mk (Kept.of_grown hg_ HK.out (fun q e_ => .inl (by cases e_; exact hP))); clear ho hb2 hg_))
      refine ⟨⟨k + 1, by omega, ?_, ?_, ⟨?_⟩, HB, HK⟩, ?_⟩
      · congr 1; omega
      · rfl
      · have := HO6.out
        rw [set_mid _ _ _ _ (marks_len _ _) hlt] at this
        rw [marks_succ]
        exact this
      · simp [intOf]; omega
    · go_wp2
      have hk' : k = l.length := by omega
      subst hk'
      go_ret
      exact ⟨rfl, by have := HO1.out; rw [List.drop_of_length_le (Nat.le_refl _), List.append_nil] at this; exact this, HB.out, HK.out⟩
set_option maxRecDepth 100000 in
set_option maxHeartbeats 400000 in
theorem laws_eqTime (a b c d : Int) (w : World) : Calls Try.prog 97 #[.agg #[.int .i64 a, .int .i64 b], .agg #[.int .i64 c, .int .i64 d]] w (RetV w (.bool (decide (a = c) && decide (b = d)))) := by
  have HB := Aside0.mk (Below.refl w.heap.size w)
  go_enter Try.func97, Try.ntmps97
  go_wp2
  all_goals (go_ret; exact RetV.mk (by simp_all) (by repeat (first | exact HB.out | apply below_alloc)))
def eqRw (x y : Rw) : Bool := decide (x.f0 = y.f0) && decide (x.f1 = y.f1) && (decide (x.f2.f0 = y.f2.f0) && decide (x.f2.f1 = y.f2.f1)) && decide (x.f3 = y.f3)
theorem eqRw_iff (x y : Rw) : eqRw x y = true ↔ x = y := by
  unfold eqRw
  constructor
  · intro h
    simp only [Bool.and_eq_true, decide_eq_true_eq] at h
    exact Rw.ext' h.1.1.1 h.1.1.2 (Tm.ext' h.1.2.1 h.1.2.2) h.2
  · rintro rfl; simp
set_option maxRecDepth 100000 in
set_option maxHeartbeats 1000000 in
theorem laws_eqRow (x y : Rw) (w : World) : Calls Try.prog 78 #[.agg #[.int .i64 x.f0, .int .i64 x.f1, .int .i64 x.f2.f0, .int .i64 x.f2.f1, .int .i64 x.f3], .agg #[.int .i64 y.f0, .int .i64 y.f1, .int .i64 y.f2.f0, .int .i64 y.f2.f1, .int .i64 y.f3]] w (RetV w (.bool (eqRw x y))) := by
  have HB := Aside0.mk (Below.refl w.heap.size w)
  go_enter Try.func78, Try.ntmps78
  go_wp2_with (first | (go_at_call 97; refine (laws_eqTime _ _ _ _ _).mono ?_; rintro e w' ⟨rfl, hb⟩; replace HB := Aside0.mk (bthen (by repeat (first | exact HB.out | apply below_alloc)) hb); obtain ⟨hc, hf⟩ := bcell hb; have z0 : w.heap.size < w'.heap.size := (by have := hb.size; (try simp at this); omega); have z1 : w.heap.size + 1 < w'.heap.size := (by have := hb.size; (try simp at this); omega)))
  all_goals (go_ret; exact RetV.mk (by first | (simp_all [eqRw]; done) | (simp_all [eqRw]; intros; omega)) (by repeat (first | exact HB.out | apply below_alloc)))
def eqRwS : List Rw → List Rw → Bool
  | [], [] => true
  | x :: l, y :: m => eqRw x y && eqRwS l m
  | _, _ => false
theorem eqRwS_iff : ∀ l m : List Rw, eqRwS l m = true ↔ l = m
  | [], [] => by simp [eqRwS]
  | [], y :: m => by simp [eqRwS]
  | x :: l, [] => by simp [eqRwS]
  | x :: l, y :: m => by rw [eqRwS, Bool.and_eq_true, eqRw_iff, eqRwS_iff l m, List.cons.injEq]
theorem eqRwS_no {l m : List Rw} (h : l ≠ m) : eqRwS l m = false := by
  cases e : eqRwS l m with
  | false => rfl
  | true => exact absurd ((eqRwS_iff l m).1 e) h
theorem take_next {l m : List Rw} {k : Nat} {x : Rw} (h : l.take k = m.take k) (hx : l[k]? = some x) (hy : m[k]? = some x) : l.take (k + 1) = m.take (k + 1) := by
  rw [List.take_add_one, List.take_add_one, h, hx, hy]
set_option maxRecDepth 100000 in
set_option maxHeartbeats 1000000 in
theorem laws_eqRowS (v v2 : Value) (l m : List Rw) (w : World) (h : Sl kRw w v l) (h2 : Sl kRw w v2 m) : Calls Try.prog 38 #[v, v2] w (RetV w (.bool (eqRwS l m))) := by
  obtain ⟨A, c_, rfl, HC, hr⟩ := h
  have hm := Kd.C_max hr
  have HR := Aside0.mk hr
  clear hr
  obtain ⟨A2, c2_, rfl, HC2, hr2⟩ := h2
  have hm2 := Kd.C_max hr2
  have HR2 := Aside0.mk hr2
  clear hr2
  have HB := Aside0.mk (Below.refl w.heap.size w)
  go_enter Try.func38, Try.ntmps38
  by_cases hn : l.length = m.length
  · go_wp2
    go_loopw [5] (fun i wr => ∃ k : Nat, k ≤ l.length ∧ i = .int .i64 k ∧ Aside0 (l.take k = m.take k) ∧ Aside0 (Below w.heap.size w wr)) (fun i _ => l.length - (intOf i).toNat)
    case atStart => exact ⟨0, Nat.zero_le _, rfl, ⟨by simp⟩, HB⟩
    case round =>
      obtain ⟨k, hk, rfl, HA, HB⟩ := hrel
      by_cases hlt : k < l.length
      · obtain ⟨ad, x, e, HX, h0, h1, h2, h3, h4⟩ := rdRw HR.out HB.out hlt
        cases e
        have hlt2 : k < m.length := by omega
        obtain ⟨ad', y, e, HY, i0, i1, i2, i3, i4⟩ := rdRw HR2.out HB.out hlt2
        cases e
        go_wp2
        have q0 := fun u : Ext wr => Ext.cell h0 u
        have q1 := fun u : Ext wr => Ext.cell h1 u
        have q2 := fun u : Ext wr => Ext.cell h2 u
        have q3 := fun u : Ext wr => Ext.cell h3 u
        have q4 := fun u : Ext wr => Ext.cell h4 u
        have r0 := fun u : Ext wr => Ext.cell i0 u
        have r1 := fun u : Ext wr => Ext.cell i1 u
        have r2 := fun u : Ext wr => Ext.cell i2 u
        have r3 := fun u : Ext wr => Ext.cell i3 u
        have r4 := fun u : Ext wr => Ext.cell i4 u
        refine wp_region_ext (by kernel_rfl) (by kernel_rfl) ?_
        repeat (any_goals (first | go_big_quiet_step ((go_at_call 78; exact Calls.extV (laws_eqRow x y _))) | quiet_step ((go_at_call 78; exact Calls.extV (laws_eqRow x y _))) | (refine wpQuiet_step (fun K hK => ?_); go_simp; split <;> (refine hK _ ?_; clear hK K))))
        all_goals (refine wpQuiet_nil ?_; intro u)
        all_goals have HB2 := Aside0.mk (bthen HB.out u.bel)
        all_goals cases hq : eqRw x y with
          | true =>
            go_wp2
            go_roundw
            case rel => exact ⟨k + 1, by omega, by go_num, ⟨take_next HA.out HX.out (by rw [(eqRw_iff x y).1 hq]; exact HY.out)⟩, HB2⟩
            case measure => simp [intOf]; omega
          | false =>
            go_wp2
            go_ret
            exact RetV.mk (by rw [eqRwS_no (fun e => by subst e; have := HX.out.symm.trans HY.out; cases this; rw [(eqRw_iff x x).2 rfl] at hq; cases hq)]; rfl) HB2.out
      · go_wp2
        go_ret
        exact RetV.mk (by rw [(eqRwS_iff l m).2 (by have := HA.out; rwa [List.take_of_length_le (by omega), List.take_of_length_le (by omega)] at this)]; rfl) HB.out
  · have hn2 : ¬ (l.length : Int) = (m.length : Int) := by omega
    go_wp2
    go_ret
    exact RetV.mk (by rw [eqRwS_no (fun e => hn (by rw [e]))]; rfl) HB.out
end Go.Proofs.Ytbbkimgadohdkaa.X
