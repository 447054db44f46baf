/- Changes of sums, plainly: what they sum up to at each time, and that they are a batch. Conditions: rows in bounds, few of them. -/
import Derived.Test.YthljcnlmeefcjaaGreatYMFs
import Derived.Test.YthljcnlmeefcjaaGreatYMFl
namespace Go.Proofs.YthljcnlmeefcjaaGreat.X
open Go.RowKit
set_option linter.unusedVariables false
set_option linter.unusedSimpArgs false

theorem allTm_order : allTm.Pairwise (fun s t => below t s = false) := by
  unfold allTm
  rw [List.pairwise_map]
  refine List.pairwise_lt_range.imp fun {m n} h => ?_
  simp only [below, Bool.and_eq_false_iff, decide_eq_false_iff_not]
  omega
theorem flowTimes_order (a : List Rw) (key : Int) : (flowTimes a key).Pairwise (fun s t => below t s = false) := by
  unfold flowTimes
  split
  · exact allTm_order.filter _
  · exact List.Pairwise.nil
theorem flowTimes_mem {a : List Rw} {key : Int} (ha : rowsOk a = true) {t : Tm} : t ∈ flowTimes a key ↔ Clo (keyT a key) t := by
  unfold flowTimes
  rw [if_pos ha, mem_timesL, cloB_iff]
  exact ⟨fun h => h.2, fun h => ⟨h.ok (keyT_ok (rowsOk_all ha).2), h⟩⟩
theorem below_trans {s t u : Tm} (h : below s t = true) (g : below t u = true) : below s u = true := by
  simp only [below, Bool.and_eq_true, decide_eq_true_eq] at h g ⊢; omega
theorem below_refl (t : Tm) : below t t = true := by simp [below]
theorem tmax_le (a b : Int) : a ≤ tmax a b ∧ b ≤ tmax a b := by unfold tmax; split <;> omega
theorem below_joinL {c d : Tm} (hc : tOk c = true) (hd : tOk d = true) : below c (tJoin c d) = true ∧ below d (tJoin c d) = true := by
  have e : tJoin c d = ⟨tmax c.f0 d.f0, tmax c.f1 d.f1⟩ := by unfold tJoin; rw [hc, hd]; rfl
  rw [e]
  simp only [below, Bool.and_eq_true, decide_eq_true_eq]
  exact ⟨⟨(tmax_le _ _).1, (tmax_le _ _).1⟩, ⟨(tmax_le _ _).2, (tmax_le _ _).2⟩⟩
/-- of times closed under joins: none is before, or one is the last of those that are -/
theorem join_max {T : List Tm} (hok : ∀ t ∈ T, tOk t = true) (hj : ∀ s ∈ T, ∀ t ∈ T, tJoin s t ∈ T) (t : Tm) : ∀ l : List Tm, (∀ s ∈ l, s ∈ T) → (∀ s ∈ l, below s t = false) ∨ ∃ j ∈ T, below j t = true ∧ ∀ s ∈ l, below s t = true → below s j = true
  | [], _ => .inl fun s hs => by cases hs
  | x :: l, hl => by
    have hx := hl x List.mem_cons_self
    have ih := join_max hok hj t l (fun s hs => hl s (List.mem_cons_of_mem _ hs))
    cases hb : below x t
    · rcases ih with ih | ⟨j, h1, h2, h3⟩
      · exact .inl fun s hs => by
          rcases List.mem_cons.1 hs with rfl | hs
          · exact hb
          · exact ih s hs
      · exact .inr ⟨j, h1, h2, fun s hs h => by
          rcases List.mem_cons.1 hs with rfl | hs
          · rw [hb] at h; cases h
          · exact h3 s hs h⟩
    · rcases ih with ih | ⟨j, h1, h2, h3⟩
      · exact .inr ⟨x, hx, hb, fun s hs h => by
          rcases List.mem_cons.1 hs with rfl | hs
          · exact below_refl _
          · rw [ih s hs] at h; cases h⟩
      · obtain ⟨b1, b2⟩ := below_joinL (hok x hx) (hok j h1)
        refine .inr ⟨tJoin x j, hj x hx j h1, by rw [below_join (hok x hx) (hok j h1), hb, h2]; rfl, fun s hs h => ?_⟩
        rcases List.mem_cons.1 hs with rfl | hs
        · exact b1
        · exact below_trans (h3 s hs h) b2
theorem sg_toRw (φ : Wt) (t : Tm) (l : List It) : sg (sh φ) (l.map (toRw t)) = sg (shI fun a b => φ a b t) l := sg_map _ _ _
theorem step_at (own m : List Rw) (kind : Int) (t : Tm) (ψ : Int → Int → Int) : Md (sg (sh (upW t ψ)) (stepM own kind m t)) (sg (shI ψ) (aggL (present own t) kind)) := by
  unfold stepM
  rw [shR_append, sg_toRw]
  have e : (fun a b => upW t ψ a b t) = ψ := by funext a b; unfold upW; rw [if_pos (below_refl t)]
  rw [e]
  have h1 := items_Md ψ (dueL own m kind t)
  have h2 : sg (shI ψ) (dueL own m kind t) = sg (shI ψ) (aggL (present own t) kind) + sg (shI ψ) ((present m t).map negI) := sh_append ψ _ _
  have h3 := negI_Md ψ (present m t)
  have h4 : Md (sg (shI ψ) (present m t)) (sg (sh (upW t ψ)) m) := by rw [← sh_present']; exact items_Md ψ _
  obtain ⟨c1, e1⟩ := h1
  obtain ⟨c3, e3⟩ := h3
  obtain ⟨c4, e4⟩ := h4
  exact ⟨c1 + c3 - c4, by omega⟩
theorem step_other {own m : List Rw} {kind : Int} {t s : Tm} (h : below t s = false) (ψ : Int → Int → Int) : sg (sh (upW s ψ)) (stepM own kind m t) = sg (sh (upW s ψ)) m := by
  unfold stepM
  rw [shR_append, sg_toRw]
  have e : sg (shI fun a b => upW s ψ a b t) (items (dueL own m kind t)) = 0 := sg_zero fun x _ => by unfold shI upW; rw [h]; simp
  rw [e]; omega
theorem fold_other {own : List Rw} {kind : Int} {s : Tm} (ψ : Int → Int → Int) : ∀ (ts : List Tm) (m : List Rw), (∀ t ∈ ts, below t s = false) → sg (sh (upW s ψ)) (ts.foldl (stepM own kind) m) = sg (sh (upW s ψ)) m
  | [], _, _ => rfl
  | t :: ts, m, h => by
    rw [List.foldl_cons, fold_other ψ ts _ (fun u hu => h u (List.mem_cons_of_mem _ hu)), step_other (h t List.mem_cons_self)]
theorem fold_at {own : List Rw} {kind : Int} : ∀ (ts : List Tm) (m : List Rw), ts.Pairwise (fun s t => below t s = false) → ∀ s ∈ ts, ∀ ψ, Md (sg (sh (upW s ψ)) (ts.foldl (stepM own kind) m)) (sg (shI ψ) (aggL (present own s) kind))
  | t :: ts, m, hp, s, hs, ψ => by
    obtain ⟨h1, h2⟩ := List.pairwise_cons.1 hp
    rw [List.foldl_cons]
    rcases List.mem_cons.1 hs with rfl | hs
    · rw [fold_other ψ ts _ h1]; exact step_at own m kind s ψ
    · exact fold_at ts _ h2 s hs ψ
theorem fold_mem {own : List Rw} {kind : Int} : ∀ (ts : List Tm) (m : List Rw), ∀ r ∈ ts.foldl (stepM own kind) m, r ∈ m ∨ r.f2 ∈ ts
  | [], m, r, hr => .inl hr
  | t :: ts, m, r, hr => by
    rw [List.foldl_cons] at hr
    rcases fold_mem ts _ r hr with h | h
    · unfold stepM at h
      rcases List.mem_append.1 h with h | h
      · exact .inl h
      · obtain ⟨x, _, rfl⟩ := List.mem_map.1 h
        exact .inr List.mem_cons_self
    · exact .inr (List.mem_cons_of_mem _ h)
theorem sumKey_mem {a : List Rw} {kind key : Int} : ∀ r ∈ sumKey a kind key, r.f2 ∈ flowTimes a key := fun r hr => by
  unfold sumKey at hr
  rcases fold_mem _ _ r hr with h | h
  · cases h
  · exact h
theorem aggL_nil (kind : Int) : aggL [] kind = [] := by
  unfold aggL
  split
  · unfold countedL; simp [keyC, sg]
  · split
    · rfl
    · rfl
theorem presentOf_congr {l : List Rw} {s t : Tm} (h : ∀ r ∈ l, below r.f2 s = below r.f2 t) : presentOf l s = presentOf l t := by
  unfold presentOf
  rw [List.filter_congr fun r hr => h r hr]
theorem upW_congr {l : List Rw} {s t : Tm} (h : ∀ r ∈ l, below r.f2 s = below r.f2 t) (ψ : Int → Int → Int) : sg (sh (upW s ψ)) l = sg (sh (upW t ψ)) l :=
  sg_congr fun r hr => by unfold sh upW; rw [h r hr]
theorem own_times {a : List Rw} {key : Int} (ha : rowsOk a = true) : ∀ r ∈ ownK a key, r.f2 ∈ flowTimes a key := fun r hr => by
  obtain ⟨h1, h2⟩ := List.mem_filter.1 hr
  exact (flowTimes_mem ha).2 (.base ⟨r, h1, of_decide_eq_true h2, rfl⟩)
/-- at any time the changes of a key's sums sum up to the sum -/
theorem sumKey_at {a : List Rw} {kind key : Int} (ha : rowsOk a = true) (t : Tm) (ψ : Int → Int → Int) : Md (sg (sh (upW t ψ)) (sumKey a kind key)) (sg (shI ψ) (aggL (present (ownK a key) t) kind)) := by
  have hok : ∀ t ∈ flowTimes a key, tOk t = true := flowTimes_ok a key
  have hj : ∀ s ∈ flowTimes a key, ∀ t ∈ flowTimes a key, tJoin s t ∈ flowTimes a key := fun s hs t ht => (flowTimes_mem ha).2 (.join ((flowTimes_mem ha).1 hs) ((flowTimes_mem ha).1 ht))
  rcases join_max hok hj t (flowTimes a key) (fun _ h => h) with h | ⟨j, h1, h2, h3⟩
  · have e1 : sg (sh (upW t ψ)) (sumKey a kind key) = 0 := sg_zero fun r hr => by unfold sh upW; rw [h _ (sumKey_mem r hr)]; simp
    have e2 : present (ownK a key) t = [] := by
      unfold present presentOf
      rw [List.filter_eq_nil_iff.2 fun r hr => by rw [h _ (own_times ha r hr)]; simp]; rfl
    rw [e1, e2, aggL_nil]
    exact Md.refl _
  · have hb : ∀ s ∈ flowTimes a key, below s t = below s j := fun s hs => by
      rw [Bool.eq_iff_iff]
      exact ⟨h3 s hs, fun h => below_trans h h2⟩
    rw [upW_congr (fun r hr => hb _ (sumKey_mem r hr))]
    have e2 : present (ownK a key) t = present (ownK a key) j := by unfold present; rw [presentOf_congr fun r hr => hb _ (own_times ha r hr)]
    rw [e2]
    exact fold_at _ [] (flowTimes_order a key) j h1 ψ
theorem canon_eqM {l m : List Rw} (hl : canon l) (hm : canon m) (il : ∀ x ∈ l, inR x.f3) (im : ∀ x ∈ m, inR x.f3) (h : ∀ φ, Md (sg (sh φ) l) (sg (sh φ) m)) : l = m :=
  asc_unique ltR_irr (fun x y z h1 h2 => ltR_trans h1 h2) hl.1 hm.1 (fun x => ⟨canon_subM hl hm il im h x, canon_subM hm hl im il (fun φ => (h φ).symm) x⟩)
theorem canonI_eqM {l m : List It} (hl : canonI l) (hm : canonI m) (il : ∀ x ∈ l, inR x.f2) (im : ∀ x ∈ m, inR x.f2) (h : ∀ ψ, Md (sg (shI ψ) l) (sg (shI ψ) m)) : l = m := by
  have e : l.map rowOf = m.map rowOf := canon_eqM (canonI_rows hl) (canonI_rows hm) (fun y hy => by obtain ⟨z, hz, rfl⟩ := List.mem_map.1 hy; exact il z hz) (fun y hy => by obtain ⟨z, hz, rfl⟩ := List.mem_map.1 hy; exact im z hz) (fun φ => by rw [sh_rowOf, sh_rowOf]; exact h _)
  rw [← map_itemOf_rowOf l, e, map_itemOf_rowOf]
theorem rows_inR {a : List Rw} (ha : ∀ r ∈ a, rowOk r = true) : ∀ r ∈ a, inR r.f3 := fun r hr => by have := rowOk_in (ha r hr); unfold inR; omega
theorem presentOf_inR {a : List Rw} (ha : ∀ r ∈ a, inR r.f3) (t : Tm) : ∀ x ∈ presentOf a t, inR x.f2 := fun x hx => by
  obtain ⟨r, hr, rfl⟩ := presentOf_mem hx
  exact ha r hr
theorem present_inR {a : List Rw} (ha : ∀ r ∈ a, inR r.f3) (t : Tm) : ∀ x ∈ present a t, inR x.f2 := items_inR (presentOf_inR ha t)
theorem present_Md (ψ : Int → Int → Int) (a : List Rw) (t : Tm) : Md (sg (shI ψ) (present a t)) (sg (sh (upW t ψ)) a) := by rw [← sh_present']; exact items_Md ψ _
/-- what there is of a key is what there is of the key's rows -/
theorem present_key {a : List Rw} (ha : ∀ r ∈ a, inR r.f3) (t : Tm) (k : Int) : (present a t).filter (fun x => decide (x.f0 = k)) = present (ownK a k) t := by
  have hc := items_canon (presentOf a t)
  refine canonI_eqM ⟨hc.1.filter _, fun x hx => hc.2 x (List.mem_filter.1 hx).1⟩ (items_canon _) (fun x hx => present_inR ha t x (List.mem_filter.1 hx).1) (present_inR (fun r hr => ha r (List.mem_filter.1 hr).1) t) (fun ψ => ?_)
  rw [sg_filter]
  have e1 : sg (fun x : It => if decide (x.f0 = k) = true then shI ψ x else 0) (present a t) = sg (shI fun a b => if a = k then ψ a b else 0) (present a t) := sg_congr fun x _ => by
    unfold shI
    by_cases h : x.f0 = k <;> simp [h]
  rw [e1]
  refine (present_Md _ a t).trans (Md.trans (Md.of ?_) (present_Md ψ (ownK a k) t).symm)
  unfold ownK
  rw [sg_filter]
  refine sg_congr fun r _ => ?_
  unfold sh upW
  by_cases h : r.f0 = k <;> by_cases h2 : below r.f2 t = true <;> simp [h, h2]
theorem keyL_filter (s : List It) (k kind : Int) : keyL s k kind = keyL (s.filter fun x => decide (x.f0 = k)) k kind := by
  have e1 : keyC s k = keyC (s.filter fun x => decide (x.f0 = k)) k := by
    unfold keyC
    rw [sg_filter]
    exact sg_congr fun x _ => by by_cases h : x.f0 = k <;> simp [h]
  have e2 : keyO s k = keyO (s.filter fun x => decide (x.f0 = k)) k := by
    unfold keyO
    rw [List.filter_filter]; simp
  unfold keyL
  rw [← e1, ← e2]
theorem keyO_keys (s : List It) (k : Int) : ∀ x ∈ keyO s k, x.f0 = k ∧ x.f2 = 1 := fun x hx => by
  unfold keyO onceL at hx
  obtain ⟨y, hy, rfl⟩ := List.mem_map.1 hx
  exact ⟨of_decide_eq_true (List.mem_filter.1 (List.mem_filter.1 hy).1).2, rfl⟩
theorem keyL_keys (s : List It) (k kind : Int) : ∀ x ∈ keyL s k kind, x.f0 = k ∧ x.f2 = 1 := fun x hx => by
  unfold keyL at hx
  split at hx
  · exact keyO_keys s k x hx
  · split at hx
    · exact keyO_keys s k x (List.mem_of_mem_take hx)
    · split at hx
      · split at hx
        · cases hx
        · rw [List.mem_singleton.1 hx]; exact ⟨rfl, rfl⟩
      · cases hx
theorem onceL_sorted {s : List It} (h : s.Pairwise ltI) : (onceL s).Pairwise ltI := by
  unfold onceL
  rw [List.pairwise_map]
  exact (h.filter _).imp fun h => h
theorem keyL_canon {s : List It} (h : s.Pairwise ltI) (k kind : Int) : canonI (keyL s k kind) := by
  refine ⟨?_, fun x hx => by rw [(keyL_keys s k kind x hx).2]; decide⟩
  have ho : (keyO s k).Pairwise ltI := onceL_sorted (h.filter _)
  unfold keyL
  split
  · exact ho
  · split
    · exact ho.sublist (List.take_sublist _ _)
    · split
      · split
        · exact List.Pairwise.nil
        · exact List.pairwise_singleton _ _
      · exact List.Pairwise.nil
theorem canonI_append {l m : List It} (hl : canonI l) (hm : canonI m) (h : ∀ x ∈ l, ∀ y ∈ m, x.f0 < y.f0) : canonI (l ++ m) :=
  ⟨List.pairwise_append.2 ⟨hl.1, hm.1, fun x hx y hy => .inl (h x hx y hy)⟩, fun x hx => (List.mem_append.1 hx).elim (hl.2 x) (hm.2 x)⟩
theorem keysL_keys (s : List It) (kind : Int) (n : Nat) : ∀ x ∈ keysL s kind n, 0 ≤ x.f0 ∧ x.f0 < n ∧ x.f2 = 1 := fun x hx => by
  unfold keysL at hx
  obtain ⟨k, hk, hx⟩ := List.mem_flatMap.1 hx
  have h1 := List.mem_range.1 hk
  obtain ⟨h2, h3⟩ := keyL_keys s _ kind x hx
  omega
theorem keysL_canon {s : List It} (h : s.Pairwise ltI) (kind : Int) : ∀ n, canonI (keysL s kind n)
  | 0 => ⟨by simp [keysL], fun x hx => by simp [keysL] at hx⟩
  | n + 1 => by
    rw [keysL_succ]
    refine canonI_append (keysL_canon h kind n) (keyL_canon h n kind) (fun x hx y hy => ?_)
    have h1 := keysL_keys s kind n x hx
    have h2 := (keyL_keys s n kind y hy).1
    omega
theorem keysL_inR (s : List It) (kind : Int) (n : Nat) : ∀ x ∈ keysL s kind n, inR x.f2 := fun x hx => by rw [(keysL_keys s kind n x hx).2.2]; unfold inR; omega
theorem aggL_own {a : List Rw} {kind : Int} (ha : ∀ r ∈ a, rowOk r = true) (k1 : 1 ≤ kind) (k3 : kind ≤ 3) (t : Tm) (k : Nat) (hk : k < 4) : aggL (present (ownK a (k : Int)) t) kind = keyL (present a t) (k : Int) kind := by
  have hp := (present_one (own_in (key := (k : Int)) ha) t).2
  rw [agg_key (fun x hx => (hp x hx).1) (by omega) (by omega) k1 k3, keyL_filter (present a t), present_key (rows_inR ha)]
/-- at any time the changes of all sums sum up to the sums of all -/
theorem allSum_at {a : List Rw} {kind : Int} (ha : rowsOk a = true) (k1 : 1 ≤ kind) (k3 : kind ≤ 3) (t : Tm) (ψ : Int → Int → Int) : Md (sg (sh (upW t ψ)) (allSum a kind)) (sg (shI ψ) (keysL (present a t) kind 4)) := by
  unfold allSum keysL
  rw [sg_flatMap, sg_flatMap]
  refine sg_Md fun k hk => ?_
  have := sumKey_at (kind := kind) (key := (k : Int)) ha t ψ
  rw [aggL_own (rowsOk_all ha).2 k1 k3 t k (List.mem_range.1 hk)] at this
  exact this
theorem allSum_in {a : List Rw} {kind : Int} (ha : rowsOk a = true) (k1 : 1 ≤ kind) (k3 : kind ≤ 3) : ∀ r ∈ allSum a kind, (0 ≤ r.f0 ∧ r.f0 ≤ 3) ∧ (0 ≤ r.f1 ∧ r.f1 ≤ 99) ∧ tOk r.f2 = true ∧ inR r.f3 ∧ r.f2 ∈ flowTimes a r.f0 := fun r hr => by
  unfold allSum at hr
  obtain ⟨k, hk, hr⟩ := List.mem_flatMap.1 hr
  have h4 := List.mem_range.1 hk
  have hm := sumKey_mem r hr
  obtain ⟨h1, h2, h3, h5⟩ := (sumKey_ok (key := (k : Int)) (rowsOk_all ha).2 (by omega) (by omega) k1 k3).in_ r hr
  exact ⟨by omega, h2, h3, h5, by rw [h1]; exact hm⟩
theorem sum_in {a : List Rw} {kind : Int} (ha : rowsOk a = true) (k1 : 1 ≤ kind) (k3 : kind ≤ 3) : ∀ r ∈ sum (allSum a kind), (0 ≤ r.f0 ∧ r.f0 ≤ 3) ∧ (0 ≤ r.f1 ∧ r.f1 ≤ 99) ∧ tOk r.f2 = true ∧ inR r.f3 ∧ r.f2 ∈ flowTimes a r.f0 := fun r hr => by
  obtain ⟨x, hx, e⟩ := sum_from r hr
  obtain ⟨e0, e1, e2⟩ := sameR_eq e
  obtain ⟨h1, h2, h3, h4, h5⟩ := allSum_in ha k1 k3 x hx
  rw [e0] at h1 h5
  rw [e1] at h2
  rw [e2] at h3 h5
  exact ⟨h1, h2, h3, sum_inR (fun x hx => (allSum_in ha k1 k3 x hx).2.2.2.1) r hr, h5⟩
/-- what there is of the changes of sums is the sums of what there is -/
theorem present_sum {a : List Rw} {kind : Int} (ha : rowsOk a = true) (k1 : 1 ≤ kind) (k3 : kind ≤ 3) (t : Tm) : present (sum (allSum a kind)) t = keysL (present a t) kind 4 := by
  refine canonI_eqM (items_canon _) (keysL_canon (items_canon _).1 kind 4) (present_inR (fun r hr => (sum_in ha k1 k3 r hr).2.2.2.1) t) (keysL_inR _ _ _) (fun ψ => ?_)
  exact ((present_Md ψ _ t).trans (sum_Md _ _)).trans (allSum_at ha k1 k3 t ψ)
def dIt (k v : Int) (a b : Int) : Int := if a = k ∧ b = v then 1 else 0
def corner (t : Tm) : Nat → Tm
  | 0 => t
  | 1 => ⟨t.f0 - 1, t.f1⟩
  | 2 => ⟨t.f0, t.f1 - 1⟩
  | _ => ⟨t.f0 - 1, t.f1 - 1⟩
theorem dl_corners (r : Rw) (a b : Int) (c : Tm) : dl r a b c = upW (corner r.f2 0) (dIt r.f0 r.f1) a b c - upW (corner r.f2 1) (dIt r.f0 r.f1) a b c - upW (corner r.f2 2) (dIt r.f0 r.f1) a b c + upW (corner r.f2 3) (dIt r.f0 r.f1) a b c := by
  obtain ⟨r0, r1, ⟨ra, rb⟩, r3⟩ := r
  obtain ⟨ca, cb⟩ := c
  unfold dl upW dIt corner
  simp only [below, Bool.and_eq_true, decide_eq_true_eq, Tm.mk.injEq]
  by_cases h : a = r0 ∧ b = r1
  · obtain ⟨rfl, rfl⟩ := h
    simp only [true_and, and_self, if_true]
    by_cases h1 : ca ≤ ra <;> by_cases h2 : cb ≤ rb <;> by_cases h3 : ca ≤ ra - 1 <;> by_cases h4 : cb ≤ rb - 1 <;> by_cases h5 : ca = ra ∧ cb = rb <;> simp [h1, h2, h3, h4, h5] <;> omega
  · have h' : ¬ (a = r0 ∧ b = r1 ∧ ca = ra ∧ cb = rb) := fun e => h ⟨e.1, e.2.1⟩
    simp [h, h']
theorem sg_corners (r : Rw) (l : List Rw) : sg (sh (dl r)) l = sg (sh (upW (corner r.f2 0) (dIt r.f0 r.f1))) l - sg (sh (upW (corner r.f2 1) (dIt r.f0 r.f1))) l - sg (sh (upW (corner r.f2 2) (dIt r.f0 r.f1))) l + sg (sh (upW (corner r.f2 3) (dIt r.f0 r.f1))) l := by
  induction l with
  | nil => rfl
  | cons x l ih =>
    simp only [sg]
    rw [ih]
    unfold sh
    rw [dl_corners r x.f0 x.f1 x.f2, Int.mul_add, Int.mul_sub, Int.mul_sub]
    omega
/-- of one item in order there is one copy or none -/
theorem one_or_none (k v : Int) : ∀ {l : List It}, l.Pairwise ltI → (∀ x ∈ l, x.f2 = 1) → (sg (shI (dIt k v)) l = 0 ∧ ∀ x ∈ l, ¬ (x.f0 = k ∧ x.f1 = v)) ∨ (sg (shI (dIt k v)) l = 1 ∧ ∃ x ∈ l, x.f0 = k ∧ x.f1 = v)
  | [], _, _ => .inl ⟨rfl, fun x hx => by cases hx⟩
  | x :: l, hp, h1 => by
    obtain ⟨p1, p2⟩ := List.pairwise_cons.1 hp
    have ih := one_or_none k v p2 (fun y hy => h1 y (List.mem_cons_of_mem _ hy))
    have hx := h1 x List.mem_cons_self
    simp only [sg]
    by_cases he : x.f0 = k ∧ x.f1 = v
    · have e : shI (dIt k v) x = 1 := by unfold shI dIt; rw [if_pos he, hx]; rfl
      refine .inr ⟨?_, x, List.mem_cons_self, he⟩
      rcases ih with ⟨i1, _⟩ | ⟨_, y, hy, hk⟩
      · omega
      · have := p1 y hy
        unfold ltI at this
        omega
    · have e : shI (dIt k v) x = 0 := by unfold shI dIt; rw [if_neg he]; exact Int.mul_zero _
      rcases ih with ⟨i1, i2⟩ | ⟨i1, y, hy, hk⟩
      · exact .inl ⟨by omega, fun y hy => by
          rcases List.mem_cons.1 hy with rfl | hy
          · exact he
          · exact i2 y hy⟩
      · exact .inr ⟨by omega, y, List.mem_cons_of_mem _ hy, hk⟩
def cAt (a : List Rw) (kind : Int) (r : Rw) (s : Tm) : Int := sg (shI (dIt r.f0 r.f1)) (keysL (present a s) kind 4)
theorem cAt_01 (a : List Rw) (kind : Int) (r : Rw) (s : Tm) : (cAt a kind r s = 0 ∧ ∀ x ∈ keysL (present a s) kind 4, ¬ (x.f0 = r.f0 ∧ x.f1 = r.f1)) ∨ (cAt a kind r s = 1 ∧ ∃ x ∈ keysL (present a s) kind 4, x.f0 = r.f0 ∧ x.f1 = r.f1) :=
  one_or_none _ _ (keysL_canon (items_canon _).1 kind 4).1 (fun x hx => (keysL_keys _ _ _ x hx).2.2)
theorem cAt_bd (a : List Rw) (kind : Int) (r : Rw) (s : Tm) : 0 ≤ cAt a kind r s ∧ cAt a kind r s ≤ 1 := by rcases cAt_01 a kind r s with ⟨h, _⟩ | ⟨h, _⟩ <;> omega
/-- a change is a difference of four sums -/
theorem sum_row {a : List Rw} {kind : Int} (ha : rowsOk a = true) (k1 : 1 ≤ kind) (k3 : kind ≤ 3) {r : Rw} (hr : r ∈ sum (allSum a kind)) :
    r.f3 = cAt a kind r (corner r.f2 0) - cAt a kind r (corner r.f2 1) - cAt a kind r (corner r.f2 2) + cAt a kind r (corner r.f2 3) := by
  have h1 := sg_dl (sum_canon (allSum a kind)).1 r hr (sameR_refl r)
  have h2 := (sum_Md (dl r) (allSum a kind))
  rw [h1, sg_corners] at h2
  obtain ⟨c, hc⟩ := h2
  obtain ⟨d0, e0⟩ := allSum_at ha k1 k3 (corner r.f2 0) (dIt r.f0 r.f1)
  obtain ⟨d1, e1⟩ := allSum_at ha k1 k3 (corner r.f2 1) (dIt r.f0 r.f1)
  obtain ⟨d2, e2⟩ := allSum_at ha k1 k3 (corner r.f2 2) (dIt r.f0 r.f1)
  obtain ⟨d3, e3⟩ := allSum_at ha k1 k3 (corner r.f2 3) (dIt r.f0 r.f1)
  have b0 := cAt_bd a kind r (corner r.f2 0)
  have b1 := cAt_bd a kind r (corner r.f2 1)
  have b2 := cAt_bd a kind r (corner r.f2 2)
  have b3 := cAt_bd a kind r (corner r.f2 3)
  have hin := (sum_in ha k1 k3 r hr).2.2.2.1
  have f0 : sg (sh (upW (corner r.f2 0) (dIt r.f0 r.f1))) (allSum a kind) = cAt a kind r (corner r.f2 0) + 18446744073709551616 * d0 := e0
  have f1 : sg (sh (upW (corner r.f2 1) (dIt r.f0 r.f1))) (allSum a kind) = cAt a kind r (corner r.f2 1) + 18446744073709551616 * d1 := e1
  have f2 : sg (sh (upW (corner r.f2 2) (dIt r.f0 r.f1))) (allSum a kind) = cAt a kind r (corner r.f2 2) + 18446744073709551616 * d2 := e2
  have f3 : sg (sh (upW (corner r.f2 3) (dIt r.f0 r.f1))) (allSum a kind) = cAt a kind r (corner r.f2 3) + 18446744073709551616 * d3 := e3
  rw [f0, f1, f2, f3] at hc
  clear e0 e1 e2 e3 f0 f1 f2 f3 h1
  generalize cAt a kind r (corner r.f2 0) = x0 at *
  generalize cAt a kind r (corner r.f2 1) = x1 at *
  generalize cAt a kind r (corner r.f2 2) = x2 at *
  generalize cAt a kind r (corner r.f2 3) = x3 at *
  refine Md.eq hin ?_ ⟨c + d0 - d1 - d2 + d3, ?_⟩
  · unfold inR; omega
  · omega
/-- of an item in order: its count, or none -/
theorem coefI (k v : Int) : ∀ {l : List It}, l.Pairwise ltI → (∃ y ∈ l, (y.f0 = k ∧ y.f1 = v) ∧ sg (shI (dIt k v)) l = y.f2) ∨ (sg (shI (dIt k v)) l = 0 ∧ ∀ y ∈ l, ¬ (y.f0 = k ∧ y.f1 = v))
  | [], _ => .inr ⟨rfl, fun x hx => by cases hx⟩
  | x :: l, hp => by
    obtain ⟨p1, p2⟩ := List.pairwise_cons.1 hp
    have ih := coefI k v p2
    simp only [sg]
    by_cases he : x.f0 = k ∧ x.f1 = v
    · have e : shI (dIt k v) x = x.f2 := by unfold shI dIt; rw [if_pos he]; exact Int.mul_one _
      refine .inl ⟨x, List.mem_cons_self, he, ?_⟩
      rcases ih with ⟨y, hy, hk, _⟩ | ⟨i1, _⟩
      · have := p1 y hy
        unfold ltI at this
        omega
      · omega
    · have e : shI (dIt k v) x = 0 := by unfold shI dIt; rw [if_neg he]; exact Int.mul_zero _
      rcases ih with ⟨y, hy, hk, i1⟩ | ⟨i1, i2⟩
      · exact .inl ⟨y, List.mem_cons_of_mem _ hy, hk, by omega⟩
      · exact .inr ⟨by omega, fun y hy => by
          rcases List.mem_cons.1 hy with rfl | hy
          · exact he
          · exact i2 y hy⟩
theorem mem_keysL {s : List It} {kind : Int} {n : Nat} {x : It} : x ∈ keysL s kind n ↔ (0 ≤ x.f0 ∧ x.f0 < n) ∧ x ∈ keyL s x.f0 kind := by
  constructor
  · intro hx
    have h1 := keysL_keys s kind n x hx
    unfold keysL at hx
    obtain ⟨k, hk, hx⟩ := List.mem_flatMap.1 hx
    have h2 := (keyL_keys s _ kind x hx).1
    exact ⟨⟨h1.1, h1.2.1⟩, by rw [h2]; exact hx⟩
  · rintro ⟨⟨h0, h1⟩, hx⟩
    refine List.mem_flatMap.2 ⟨x.f0.toNat, List.mem_range.2 (by omega), ?_⟩
    rw [Int.toNat_of_nonneg h0]; exact hx
theorem mem_keyO {s : List It} {k : Int} {x : It} : x ∈ keyO s k ↔ x.f2 = 1 ∧ ∃ y ∈ s, 0 < y.f2 ∧ y.f0 = k ∧ x.f0 = k ∧ y.f1 = x.f1 := by
  unfold keyO onceL
  rw [List.mem_map]
  constructor
  · rintro ⟨y, hy, rfl⟩
    obtain ⟨h1, h2⟩ := List.mem_filter.1 hy
    obtain ⟨h3, h4⟩ := List.mem_filter.1 h1
    exact ⟨rfl, y, h3, of_decide_eq_true h2, of_decide_eq_true h4, of_decide_eq_true h4, rfl⟩
  · rintro ⟨h1, y, hy, h2, h3, h4, h5⟩
    refine ⟨y, List.mem_filter.2 ⟨List.mem_filter.2 ⟨hy, decide_eq_true h3⟩, decide_eq_true h2⟩, ?_⟩
    exact It.ext' (by rw [h4]; exact h3) h5 h1.symm
def relR (kind : Int) (r x : Rw) : Prop := x.f0 = r.f0 ∧ (kind = 2 → x.f1 = r.f1)
theorem cAt_dep {a : List Rw} {kind : Int} (ha : rowsOk a = true) {r : Rw} {s s' : Tm} (h : ∀ x ∈ a, relR kind r x → below x.f2 s = below x.f2 s') : cAt a kind r s = cAt a kind r s' := by
  have key : (∃ x ∈ keysL (present a s) kind 4, x.f0 = r.f0 ∧ x.f1 = r.f1) ↔ (∃ x ∈ keysL (present a s') kind 4, x.f0 = r.f0 ∧ x.f1 = r.f1) := by
    by_cases h2 : kind = 2
    · subst h2
      have hI := rows_inR (rowsOk_all ha).2
      have e : ∀ s : Tm, (∃ x ∈ keysL (present a s) 2 4, x.f0 = r.f0 ∧ x.f1 = r.f1) ↔ (0 ≤ r.f0 ∧ r.f0 < 4) ∧ 0 < sg (shI (dIt r.f0 r.f1)) (present a s) := fun s => by
        have hcan : (present a s).Pairwise ltI := (items_canon (presentOf a s)).1
        have hc := coefI r.f0 r.f1 hcan
        constructor
        · rintro ⟨x, hx, e0, e1⟩
          obtain ⟨g0, g1⟩ := mem_keysL.1 hx
          have g2 : x ∈ keyO (present a s) x.f0 := g1
          obtain ⟨_, y, hy, hp, y0, _, y1⟩ := mem_keyO.1 g2
          refine ⟨by rw [← e0]; exact g0, ?_⟩
          rcases hc with ⟨z, hz, hk, hs⟩ | ⟨_, hn⟩
          · have hzy : z = y := by
              obtain ⟨i, hi, ei⟩ := List.getElem_of_mem hz
              obtain ⟨j, hj, ej⟩ := List.getElem_of_mem hy
              rcases Nat.lt_trichotomy i j with hij | hij | hij
              · have := List.pairwise_iff_getElem.1 hcan i j hi hj hij
                unfold ltI at this
                rw [ei, ej] at this; omega
              · subst hij; rw [← ei, ← ej]
              · have := List.pairwise_iff_getElem.1 hcan j i hj hi hij
                unfold ltI at this
                rw [ei, ej] at this; omega
            rw [hs, hzy]; exact hp
          · exact absurd ⟨by omega, by omega⟩ (hn y hy)
        · rintro ⟨g0, g1⟩
          rcases hc with ⟨z, hz, hk, hs⟩ | ⟨h0, _⟩
          · have g3 : 0 < sg (shI (dIt r.f0 r.f1)) (present a s) := g1
            rw [hs] at g3
            refine ⟨oneI z, mem_keysL.2 ⟨by show 0 ≤ z.f0 ∧ z.f0 < 4; omega, ?_⟩, hk.1, hk.2⟩
            show oneI z ∈ keyO (present a s) z.f0
            exact mem_keyO.2 ⟨rfl, z, hz, g3, rfl, rfl, rfl⟩
          · omega
      have hr : ∀ s : Tm, inR (sg (shI (dIt r.f0 r.f1)) (present a s)) := fun s => by
        rcases coefI r.f0 r.f1 (show (present a s).Pairwise ltI from (items_canon (presentOf a s)).1) with ⟨z, hz, _, hs⟩ | ⟨h0, _⟩
        · have := present_inR hI s z hz
          rw [hs]; exact this
        · rw [h0]; unfold inR; omega
      have em : sg (shI (dIt r.f0 r.f1)) (present a s) = sg (shI (dIt r.f0 r.f1)) (present a s') := by
        refine Md.eq (hr s) (hr s') (((present_Md _ a s).trans (Md.of (sg_congr fun x hx => ?_))).trans (present_Md _ a s').symm)
        unfold sh upW dIt
        by_cases hk : x.f0 = r.f0 ∧ x.f1 = r.f1
        · rw [h x hx ⟨hk.1, fun _ => hk.2⟩]
        · simp [hk]
      rw [e, e, em]
    · have e : ∀ s : Tm, (∃ x ∈ keysL (present a s) kind 4, x.f0 = r.f0 ∧ x.f1 = r.f1) ↔ (0 ≤ r.f0 ∧ r.f0 < 4) ∧ ∃ x ∈ keyL (present (ownK a r.f0) s) r.f0 kind, x.f1 = r.f1 := fun s => by
        have ek : keyL (present a s) r.f0 kind = keyL (present (ownK a r.f0) s) r.f0 kind := by rw [keyL_filter, present_key (rows_inR (rowsOk_all ha).2)]
        rw [← ek]
        constructor
        · rintro ⟨x, hx, e0, e1⟩
          obtain ⟨g0, g1⟩ := mem_keysL.1 hx
          rw [e0] at g0 g1
          exact ⟨g0, x, g1, e1⟩
        · rintro ⟨g0, x, g1, e1⟩
          have e0 := (keyL_keys _ _ _ x g1).1
          exact ⟨x, mem_keysL.2 ⟨by rw [e0]; exact g0, by rw [e0]; exact g1⟩, e0, e1⟩
      have ep : present (ownK a r.f0) s = present (ownK a r.f0) s' := by
        have ee : presentOf (ownK a r.f0) s = presentOf (ownK a r.f0) s' := presentOf_congr fun x hx => h x (List.mem_filter.1 hx).1 ⟨of_decide_eq_true (List.mem_filter.1 hx).2, fun e => absurd e h2⟩
        unfold present
        rw [ee]
      rw [e, e, ep]
  rcases cAt_01 a kind r s with ⟨h1, h2⟩ | ⟨h1, h2⟩ <;> rcases cAt_01 a kind r s' with ⟨h3, h4⟩ | ⟨h3, h4⟩
  · rw [h1, h3]
  · obtain ⟨x, hx, e⟩ := key.2 h4; exact absurd e (h2 x hx)
  · obtain ⟨x, hx, e⟩ := key.1 h2; exact absurd e (h4 x hx)
  · rw [h1, h3]
def cand1 (a : List Rw) (kind : Int) (r : Rw) : List Rw := if kind = 2 then [r] else (List.range 4).flatMap fun c => (keyL (present a (corner r.f2 c)) r.f0 kind).map fun x => ⟨r.f0, x.f1, r.f2, 0⟩
def cand (a : List Rw) (kind : Int) : List Rw := a.flatMap fun i => (List.range 8).flatMap fun b : Nat => cand1 a kind ⟨i.f0, i.f1, ⟨i.f2.f0, (b : Int)⟩, 0⟩
theorem keyL_one (s : List It) (k : Int) {kind : Int} (h : kind ≠ 2) : (keyL s k kind).length ≤ 1 := by
  unfold keyL
  rw [if_neg h]
  split
  · rw [List.length_take]; omega
  · split
    · split <;> simp
    · simp
theorem cand1_len (a : List Rw) (kind : Int) (r : Rw) : (cand1 a kind r).length ≤ 4 := by
  unfold cand1
  split
  · simp
  · rename_i h
    have := len_flatMap (c := 1) (s := List.range 4) (g := fun c => (keyL (present a (corner r.f2 c)) r.f0 kind).map fun x => (⟨r.f0, x.f1, r.f2, 0⟩ : Rw)) (fun c _ => by rw [List.length_map]; exact keyL_one _ _ h)
    simpa using this
theorem cand_len (a : List Rw) (kind : Int) : (cand a kind).length ≤ 32 * a.length := by
  unfold cand
  refine len_flatMap fun i _ => ?_
  have := len_flatMap (c := 4) (s := List.range 8) (g := fun b : Nat => cand1 a kind ⟨i.f0, i.f1, ⟨i.f2.f0, (b : Int)⟩, 0⟩) (fun b _ => cand1_len _ _ _)
  simpa using this
def key0 (r : Rw) : Rw := ⟨r.f0, r.f1, r.f2, 0⟩
theorem sum_cand {a : List Rw} {kind : Int} (ha : rowsOk a = true) (k1 : 1 ≤ kind) (k3 : kind ≤ 3) {r : Rw} (hr : r ∈ sum (allSum a kind)) : key0 r ∈ cand a kind := by
  have hv := sum_row ha k1 k3 hr
  have hz := (sum_canon (allSum a kind)).2 r hr
  obtain ⟨i0, i1, i2, i3, _⟩ := sum_in ha k1 k3 r hr
  have hex : ∃ x ∈ a, relR kind r x ∧ x.f2.f0 = r.f2.f0 := by
    apply Classical.byContradiction
    intro hn
    have hb : ∀ (b : Int), ∀ x ∈ a, relR kind r x → below x.f2 ⟨r.f2.f0, b⟩ = below x.f2 ⟨r.f2.f0 - 1, b⟩ := fun b x hx hrel => by
      have hne : x.f2.f0 ≠ r.f2.f0 := fun e => hn ⟨x, hx, hrel, e⟩
      rw [Bool.eq_iff_iff]
      simp only [below, Bool.and_eq_true, decide_eq_true_eq]
      omega
    have e1 : cAt a kind r (corner r.f2 0) = cAt a kind r (corner r.f2 1) := cAt_dep ha (hb r.f2.f1)
    have e2 : cAt a kind r (corner r.f2 2) = cAt a kind r (corner r.f2 3) := cAt_dep ha (hb (r.f2.f1 - 1))
    omega
  obtain ⟨x, hx, hrel, hA⟩ := hex
  simp only [tOk, Bool.and_eq_true, decide_eq_true_eq] at i2
  unfold cand
  refine List.mem_flatMap.2 ⟨x, hx, List.mem_flatMap.2 ⟨r.f2.f1.toNat, List.mem_range.2 (by omega), ?_⟩⟩
  have et : (⟨x.f2.f0, ((r.f2.f1.toNat : Nat) : Int)⟩ : Tm) = r.f2 := Tm.ext' hA (by show ((r.f2.f1.toNat : Nat) : Int) = r.f2.f1; omega)
  rw [et]
  unfold cand1
  by_cases h2 : kind = 2
  · rw [if_pos h2]
    refine List.mem_singleton.2 ?_
    unfold key0
    rw [hrel.1, hrel.2 h2]
  · rw [if_neg h2]
    have hc : ∃ c < 4, ∃ y ∈ keysL (present a (corner r.f2 c)) kind 4, y.f0 = r.f0 ∧ y.f1 = r.f1 := by
      rcases cAt_01 a kind r (corner r.f2 0) with ⟨h0, _⟩ | ⟨_, h0⟩
      · rcases cAt_01 a kind r (corner r.f2 1) with ⟨h1, _⟩ | ⟨_, h1⟩
        · rcases cAt_01 a kind r (corner r.f2 2) with ⟨h2, _⟩ | ⟨_, h2⟩
          · rcases cAt_01 a kind r (corner r.f2 3) with ⟨h3, _⟩ | ⟨_, h3⟩
            · omega
            · exact ⟨3, by omega, h3⟩
          · exact ⟨2, by omega, h2⟩
        · exact ⟨1, by omega, h1⟩
      · exact ⟨0, by omega, h0⟩
    obtain ⟨c, hc4, y, hy, y0, y1⟩ := hc
    refine List.mem_flatMap.2 ⟨c, List.mem_range.2 hc4, List.mem_map.2 ⟨y, ?_, ?_⟩⟩
    · have := (mem_keysL.1 hy).2
      rw [y0] at this
      rw [hrel.1]; exact this
    · unfold key0
      rw [hrel.1, y1]
theorem key0_nodup {l : List Rw} (h : l.Pairwise ltR) : (l.map key0).Nodup := by
  rw [List.Nodup, List.pairwise_map]
  exact h.imp (fun {x y} hxy => fun e : key0 x = key0 y => ltR_ne hxy (by
    unfold key0 at e
    simp only [Rw.mk.injEq, and_true] at e
    exact ⟨e.1, e.2.1, by rw [e.2.2], by rw [e.2.2]⟩))
/-- changes of sums of few rows are a batch -/
theorem batch_sum {a : List Rw} {kind : Int} (ha : rowsOk a = true) (hn : a.length ≤ 12) (k1 : 1 ≤ kind) (k3 : kind ≤ 3) : batchOk (sum (allSum a kind)) = true := by
  have hl : (sum (allSum a kind)).length ≤ 384 := by
    have h1 := sub_len _ (cand a kind) (key0_nodup (sum_canon (allSum a kind)).1) (fun t ht => by
      obtain ⟨r, hr, rfl⟩ := List.mem_map.1 ht
      exact sum_cand ha k1 k3 hr)
    have h2 := cand_len a kind
    rw [List.length_map] at h1
    omega
  unfold batchOk rowsOk
  rw [asc_of (sum_canon _), decide_eq_true (show (sum (allSum a kind)).length ≤ 400 by omega), Bool.and_true, Bool.true_and, List.all_eq_true]
  intro r hr
  obtain ⟨h0, h1, h2, _, _⟩ := sum_in ha k1 k3 r hr
  have hv := sum_row ha k1 k3 hr
  have b0 := cAt_bd a kind r (corner r.f2 0)
  have b1 := cAt_bd a kind r (corner r.f2 1)
  have b2 := cAt_bd a kind r (corner r.f2 2)
  have b3 := cAt_bd a kind r (corner r.f2 3)
  have hb : -99999 ≤ r.f3 ∧ r.f3 ≤ 99999 := by
    generalize cAt a kind r (corner r.f2 0) = x0 at *
    generalize cAt a kind r (corner r.f2 1) = x1 at *
    generalize cAt a kind r (corner r.f2 2) = x2 at *
    generalize cAt a kind r (corner r.f2 3) = x3 at *
    omega
  clear hv b0 b1 b2 b3
  unfold rowOk
  rw [h2]
  simp only [Bool.and_true, Bool.and_eq_true, decide_eq_true_eq]
  omega
theorem flowSum_fits {a : List Rw} {kind : Int} (ha : rowsOk a = true) (hn : a.length ≤ 12) (k1 : 1 ≤ kind) (k3 : kind ≤ 3) : flowSum a kind = sum (allSum a kind) := by
  unfold flowSum
  rw [ha, decide_eq_true k1, decide_eq_true k3]
  exact fit_yes (batch_sum ha hn k1 k3)
end Go.Proofs.YthljcnlmeefcjaaGreat.X

