/- Changes of sums, and rows moved to a front, told as the laws tell it. Plain lemmas. Conditions: few rows. -/
import Derived.Test.YthljcnlmeefcjaaYAPlG
import Derived.Test.YthljcnlmeefcjaaYADr
namespace Go.Proofs.Ythljcnlmeefcjaa.X
open Go.RowKit
set_option linter.unusedVariables false
set_option linter.unusedSimpArgs false

def setCount (s : List It) : List It := if setOk s then countedL s else []
def lwSum (s : List It) (kind : Int) : List It := if kind = 1 then setCount s else if kind = 2 then setOnce s else if kind = 3 then setLeast s else []
theorem leastF_free {p : Option Int} : ∀ {m : List It}, (∀ x ∈ m, p ≠ some x.f0) → leastF p m = leastF none m
  | [], _ => by cases p <;> rfl
  | x :: m, h => by rw [leastF, leastF, if_neg (h x List.mem_cons_self), if_neg (by simp)]
theorem leastF_app {k : Int} : ∀ {l m : List It}, (∀ x ∈ l, x.f0 = k) → (∀ x ∈ m, x.f0 ≠ k) → leastF (some k) (l ++ m) = leastF none m
  | [], m, _, h => leastF_free fun x hx e => h x hx (Option.some.inj e).symm
  | x :: l, m, h1, h2 => by
    rw [List.cons_append, leastF, if_pos (by rw [h1 x List.mem_cons_self])]
    exact leastF_app (fun y hy => h1 y (List.mem_cons_of_mem _ hy)) h2
theorem leastF_apps {k : Int} {l m : List It} (h1 : ∀ x ∈ l, x.f0 = k) (h2 : ∀ x ∈ m, x.f0 ≠ k) : leastF none (l ++ m) = l.take 1 ++ leastF none m := by
  cases l with
  | nil => rfl
  | cons x l =>
    rw [List.cons_append, leastF, if_neg (by simp), h1 x List.mem_cons_self, leastF_app (fun y hy => h1 y (List.mem_cons_of_mem _ hy)) h2]
    rfl
theorem keysL_once {s : List It} (hs : setOk s = true) : keysL s 2 4 = onceL s := by
  have := sumK_once s
  unfold sumK setOnce at this
  rw [hs] at this
  exact this
theorem keysL_4 (s : List It) (kind : Int) : keysL s kind 4 = keyL s 0 kind ++ (keyL s 1 kind ++ (keyL s 2 kind ++ keyL s 3 kind)) := by
  unfold keysL; simp [List.range_succ]
theorem keysL_least {s : List It} (hs : setOk s = true) : keysL s 3 4 = leastL s := by
  have h1 : onceL s = keyO s 0 ++ (keyO s 1 ++ (keyO s 2 ++ keyO s 3)) := by
    rw [← keysL_once hs, keysL_4]; rfl
  unfold leastL
  rw [h1, keysL_4]
  have k : ∀ j : Int, ∀ x ∈ keyO s j, x.f0 = j := fun j x hx => (keyO_keys s j x hx).1
  rw [leastF_apps (k 0) (fun x hx => by
    rcases List.mem_append.1 hx with hx | hx
    · rw [k 1 x hx]; decide
    · rcases List.mem_append.1 hx with hx | hx
      · rw [k 2 x hx]; decide
      · rw [k 3 x hx]; decide)]
  rw [leastF_apps (k 1) (fun x hx => by
    rcases List.mem_append.1 hx with hx | hx
    · rw [k 2 x hx]; decide
    · rw [k 3 x hx]; decide)]
  rw [leastF_apps (k 2) (fun x hx => by rw [k 3 x hx]; decide)]
  have e3 : leastF none (keyO s 3) = (keyO s 3).take 1 := by
    have := leastF_apps (k 3) (m := []) (fun x hx => by cases hx)
    rw [List.append_nil] at this
    rw [this]; simp [leastF]
  rw [e3]; rfl
theorem keysL_lw {s : List It} (hs : setOk s = true) {kind : Int} (k1 : 1 ≤ kind) (k3 : kind ≤ 3) : keysL s kind 4 = lwSum s kind := by
  unfold lwSum setCount setOnce setLeast
  rw [hs]
  rcases (show kind = 1 ∨ kind = 2 ∨ kind = 3 by omega) with rfl | rfl | rfl
  · rfl
  · exact keysL_once hs
  · exact keysL_least hs
theorem present_setOkR {a : List Rw} (ha : rowsOk a = true) (t : Tm) : setOk (present a t) = true := by
  obtain ⟨h1, h2⟩ := rowsOk_all ha
  have hm : mass a ≤ 99999 * a.length := mass_le (c := 99999) fun r hr => by have := rowOk_in (h2 r hr); omega
  have h3 := mass_presentOf a t
  have h4 := presentOf_len a t
  unfold present
  refine setOk_items (fun y hy => ?_) (by omega) (by omega)
  obtain ⟨r, hr, rfl⟩ := presentOf_mem hy
  have := rowOk_in (h2 r hr)
  unfold keyOk itemOf; simp only; omega
theorem flowSum_ok {a : List Rw} {kind : Int} : batchOk (flowSum a kind) = true := by
  unfold flowSum
  split
  · unfold fit
    split
    · assumption
    · rfl
  · rfl
theorem batchOk_rows {l : List Rw} (h : batchOk l = true) : rowsOk l = true := by unfold batchOk at h; rw [Bool.and_eq_true] at h; exact h.2
theorem batchAt_ok {l : List Rw} {t : Tm} (hl : rowsOk l = true) (ht : tOk t = true) : batchAt l t = present l t := by unfold batchAt; rw [hl, ht]; rfl
/-- FnFlowSum, told plainly -/
theorem flowSum_at {a : List Rw} {kind : Int} (ha : rowsOk a = true) (hn : a.length ≤ 12) : ∀ t, tOk t = true → batchAt (flowSum a kind) t = lwSum (batchAt a t) kind := fun t ht => by
  by_cases hk : 1 ≤ kind ∧ kind ≤ 3
  · have e := flowSum_fits ha hn hk.1 hk.2
    rw [batchAt_ok (batchOk_rows flowSum_ok) ht, batchAt_ok ha ht, e, present_sum ha hk.1 hk.2, keysL_lw (present_setOkR ha t) hk.1 hk.2]
  · have e : flowSum a kind = [] := by
      unfold flowSum
      rw [if_neg]
      simp only [Bool.and_eq_true, decide_eq_true_eq]
      omega
    rw [e, batchAt_nil]
    unfold lwSum
    rw [if_neg (by omega), if_neg (by omega), if_neg (by omega)]
/-- FnFlowSumTimes, told plainly -/
theorem flowSum_times {a : List Rw} {kind : Int} : ∀ x ∈ flowSum a kind, x.f2 ∈ flowTimes a x.f0 := fun x hx => by
  unfold flowSum at hx
  split at hx
  · rename_i hg
    simp only [Bool.and_eq_true, decide_eq_true_eq] at hg
    have hx2 : x ∈ sum (allSum a kind) := by unfold fit at hx; split at hx; exact hx; cases hx
    exact (sum_in hg.1.1 hg.1.2 hg.2 x hx2).2.2.2.2
  · cases hx
theorem canon_subD {l m : List Rw} (hl : canon l) (hm : canon m) (il : ∀ x ∈ l, inR x.f3) (im : ∀ x ∈ m, inR x.f3) (h : ∀ k : Rw, Md (sg (sh (dl k)) l) (sg (sh (dl k)) m)) : ∀ r ∈ l, r ∈ m := fun r hr => by
  have h1 := sg_dl hl.1 r hr (sameR_refl r)
  have hk := h r
  rw [h1] at hk
  by_cases he : ∃ x ∈ m, sameR x r
  · obtain ⟨x, hx, e⟩ := he
    have h2 := sg_dl hm.1 x hx e
    rw [h2] at hk
    have h3 := Md.eq (il r hr) (im x hx) hk
    have : r = x := Rw.ext' e.1.symm e.2.1.symm (Tm.ext' e.2.2.1.symm e.2.2.2.symm) h3
    rw [this]; exact hx
  · rw [sg_dl_not (fun x hx e => he ⟨x, hx, e⟩)] at hk
    exact absurd (Md.eq (il r hr) (by unfold inR; omega) hk) (hl.2 r hr)
/-- rows that say the same at all times are the same -/
theorem canon_eqT {l m : List Rw} (hl : canon l) (hm : canon m) (il : ∀ x ∈ l, inR x.f3) (im : ∀ x ∈ m, inR x.f3) (h : ∀ t, present l t = present m t) : l = m := by
  have hd : ∀ k : Rw, Md (sg (sh (dl k)) l) (sg (sh (dl k)) m) := fun k => by
    have hu : ∀ t ψ, Md (sg (sh (upW t ψ)) l) (sg (sh (upW t ψ)) m) := fun t ψ => (present_Md ψ l t).symm.trans (by rw [h t]; exact present_Md ψ m t)
    rw [sg_corners, sg_corners]
    obtain ⟨c0, e0⟩ := hu (corner k.f2 0) (dIt k.f0 k.f1)
    obtain ⟨c1, e1⟩ := hu (corner k.f2 1) (dIt k.f0 k.f1)
    obtain ⟨c2, e2⟩ := hu (corner k.f2 2) (dIt k.f0 k.f1)
    obtain ⟨c3, e3⟩ := hu (corner k.f2 3) (dIt k.f0 k.f1)
    exact ⟨c0 - c1 - c2 + c3, by omega⟩
  exact asc_unique ltR_irr (fun x y z h1 h2 => ltR_trans h1 h2) hl.1 hm.1 (fun x => ⟨canon_subD hl hm il im hd x, canon_subD hm hl im il (fun k => (hd k).symm) x⟩)
theorem onceL_ones : ∀ {l : List It}, (∀ x ∈ l, x.f2 = 1) → onceL l = l
  | [], _ => rfl
  | x :: l, h => by
    have hx := h x List.mem_cons_self
    have ih := onceL_ones (l := l) (fun y hy => h y (List.mem_cons_of_mem _ hy))
    unfold onceL at ih ⊢
    rw [List.filter_cons_of_pos (by rw [hx]; decide), List.map_cons, ih]
    congr 1
    exact It.ext' rfl rfl hx.symm
theorem keysL_filter (s : List It) (kind : Int) (k : Nat) : ∀ n, (keysL s kind n).filter (fun x => decide (x.f0 = (k : Int))) = if k < n then keyL s (k : Int) kind else []
  | 0 => by simp [keysL]
  | n + 1 => by
    rw [keysL_succ, List.filter_append, keysL_filter s kind k n]
    by_cases h1 : k = n
    · subst h1
      rw [if_neg (by omega), if_pos (by omega), List.nil_append]
      exact List.filter_eq_self.2 fun x hx => by rw [(keyL_keys s _ kind x hx).1]; simp
    · have e : (keyL s (n : Int) kind).filter (fun x => decide (x.f0 = (k : Int))) = [] := List.filter_eq_nil_iff.2 fun x hx => by
        rw [(keyL_keys s _ kind x hx).1]; simp; omega
      rw [e, List.append_nil]
      by_cases h2 : k < n
      · rw [if_pos h2, if_pos (by omega)]
      · rw [if_neg h2, if_neg (by omega)]
theorem keyO_keysL (s : List It) (kind : Int) {k : Nat} (hk : k < 4) : keyO (keysL s kind 4) (k : Int) = keyL s (k : Int) kind := by
  unfold keyO
  rw [keysL_filter, if_pos hk]
  exact onceL_ones fun x hx => (keyL_keys _ _ _ x hx).2
theorem keysL_congr {s s' : List It} {kind kind' : Int} (h : ∀ k : Nat, k < 4 → keyL s (k : Int) kind = keyL s' (k : Int) kind') : keysL s kind 4 = keysL s' kind' 4 := by
  rw [keysL_4, keysL_4]
  have h0 := h 0 (by omega)
  have h1 := h 1 (by omega)
  have h2 := h 2 (by omega)
  have h3 := h 3 (by omega)
  have e0 : ((0 : Nat) : Int) = 0 := rfl
  have e1 : ((1 : Nat) : Int) = 1 := rfl
  have e2 : ((2 : Nat) : Int) = 2 := rfl
  have e3 : ((3 : Nat) : Int) = 3 := rfl
  rw [e0] at h0
  rw [e1] at h1
  rw [e2] at h2
  rw [e3] at h3
  rw [h0, h1, h2, h3]
theorem once_once (s : List It) : keysL (keysL s 2 4) 2 4 = keysL s 2 4 := keysL_congr fun k hk => by
  show keyO (keysL s 2 4) (k : Int) = keyL s (k : Int) 2
  exact keyO_keysL s 2 hk
theorem once_least (s : List It) : keysL (keysL s 2 4) 3 4 = keysL s 3 4 := keysL_congr fun k hk => by
  show (keyO (keysL s 2 4) (k : Int)).take 1 = (keyO s (k : Int)).take 1
  rw [keyO_keysL s 2 hk]; rfl
theorem least_least (s : List It) : keysL (keysL s 3 4) 3 4 = keysL s 3 4 := keysL_congr fun k hk => by
  show (keyO (keysL s 3 4) (k : Int)).take 1 = (keyO s (k : Int)).take 1
  rw [keyO_keysL s 3 hk]
  show ((keyO s (k : Int)).take 1).take 1 = (keyO s (k : Int)).take 1
  rw [List.take_take]; rfl
theorem flowSum_of {a : List Rw} {kind : Int} (ha : rowsOk a = true) (k1 : 1 ≤ kind) (k3 : kind ≤ 3) : flowSum a kind = fit (sum (allSum a kind)) := by
  unfold flowSum
  rw [ha, decide_eq_true k1, decide_eq_true k3]; rfl
theorem flowSum_again {a : List Rw} {i j k : Int} (ha : rowsOk a = true) (hn : a.length ≤ 12) (i1 : 1 ≤ i) (i3 : i ≤ 3) (j1 : 1 ≤ j) (j3 : j ≤ 3) (k1 : 1 ≤ k) (k3 : k ≤ 3) (h : ∀ s, keysL (keysL s i 4) j 4 = keysL s k 4) : flowSum (flowSum a i) j = flowSum a k := by
  have hb := batchOk_rows (flowSum_ok (a := a) (kind := i))
  have e : sum (allSum (flowSum a i) j) = sum (allSum a k) := by
    refine canon_eqT (sum_canon _) (sum_canon _) (fun x hx => (sum_in hb j1 j3 x hx).2.2.2.1) (fun x hx => (sum_in ha k1 k3 x hx).2.2.2.1) (fun t => ?_)
    rw [present_sum hb j1 j3, present_sum ha k1 k3, flowSum_fits ha hn i1 i3, present_sum ha i1 i3, h]
  rw [flowSum_of hb j1 j3, e, flowSum_of ha k1 k3]
/-- FnFlowOnce, told plainly -/
theorem flowSum_once {a : List Rw} (ha : rowsOk a = true) (hn : a.length ≤ 12) : flowSum (flowSum a 2) 2 = flowSum a 2 ∧ flowSum (flowSum a 2) 3 = flowSum a 3 ∧ flowSum (flowSum a 3) 3 = flowSum a 3 :=
  ⟨flowSum_again ha hn (by decide) (by decide) (by decide) (by decide) (by decide) (by decide) once_once, flowSum_again ha hn (by decide) (by decide) (by decide) (by decide) (by decide) (by decide) once_least, flowSum_again ha hn (by decide) (by decide) (by decide) (by decide) (by decide) (by decide) least_least⟩
theorem sh_negR' {l : List Rw} (h : ∀ r ∈ l, rowOk r = true) (φ : Wt) : sg (sh φ) (l.map neg) = - sg (sh φ) l := by
  rw [sg_map, ← sg_neg]
  exact sg_congr fun x hx => by rw [(neg_in (h x hx)).2]; unfold sh; simp [Int.neg_mul]
theorem mass_negR' {l : List Rw} (h : ∀ r ∈ l, rowOk r = true) : mass (l.map neg) = mass l := by
  unfold mass
  rw [sg_map]
  exact sg_congr fun x hx => by rw [(neg_in (h x hx)).2]; simp
/-- FnFlowNone, told plainly -/
theorem less_none {a : List Rw} {c : Int} {n : Nat} (ha : rowsOk a = true) (fa : FewR c n a) (hc : c ≤ 40000) (hn : n ≤ 200) : batchBoth a (batchLess a) = [] := by
  have fn : FewR c n (a.map X.neg) := ⟨by rw [mass_negR' fa.ok]; exact fa.mass, by rw [List.length_map]; exact fa.len, neg_ok fa.ok⟩
  have e1 := fn.fit (by omega) (by omega)
  have fs := fn.sum (by omega)
  have r1 := fs.rows (by omega)
  have m1 := fa.mass
  have m2 := fn.mass
  have m3 := fs.mass
  have el : batchLess a = sum (a.map X.neg) := by unfold batchLess; rw [if_pos ha]; exact e1
  rw [el]
  have e2 := (fa.append fs).fit (by omega) (by omega)
  have m4 := (fa.append fs).mass
  unfold batchBoth
  rw [ha, r1]
  simp only [Bool.and_self, if_true]
  rw [e2]
  refine canon_eq (sum_canon _) ⟨List.Pairwise.nil, fun r hr => by cases hr⟩ (fun φ => ?_)
  rw [sum_sh (by omega), shR_append, sum_sh (by omega), sh_negR' fa.ok]
  simp only [sg]; omega
theorem flowSum_nil (kind : Int) : flowSum [] kind = [] := by
  have h : ∀ r ∈ flowSum [] kind, False := fun r hr => by
    have h1 := flowSum_times r hr
    rw [flowTimes_mem rfl] at h1
    have : ∀ t, Clo (keyT [] r.f0) t → False := fun t ht => by
      induction ht with
      | base h => obtain ⟨x, hx, _⟩ := h; cases hx
      | join _ _ i _ => exact i
    exact this _ h1
  cases hl : flowSum [] kind with
  | nil => rfl
  | cons x l => rw [hl] at h; exact (h x List.mem_cons_self).elim
theorem flowJoin_nil (a : List Rw) : flowJoin a [] = [] := by
  unfold flowJoin
  split
  · have : pairsR a [] = [] := by unfold pairsR jrowR; simp
    rw [this]; rfl
  · rfl
end Go.Proofs.Ythljcnlmeefcjaa.X

