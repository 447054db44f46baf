/- Changes of sums, and rows moved to a front, told as the laws tell it. Plain lemmas. Conditions: few rows. -/
import Derived.Test.YthljcnlmeefcjaaGreatYMPlG
import Derived.Test.YthljcnlmeefcjaaGreatYMDr
namespace Go.Proofs.YthljcnlmeefcjaaGreat.X
open Go.RowKit
set_option linter.unusedVariables false
set_option linter.unusedSimpArgs false

def setCount (s : List It) : List It := if setOk s then countedL s else []
def lwSum (s : List It) (kind : Int) : List It := if kind = 1 then setCount s else if kind = 2 then setOnce s else if kind = 3 then setLeast s else []
theorem leastF_free {p : Option Int} : ∀ {m : List It}, (∀ x ∈ m, p ≠ some x.f0) → leastF p m = leastF none m
  | [], _ => by cases p <;> rfl
  | x :: m, h => by rw [leastF, leastF, if_neg (h x List.mem_cons_self), if_neg (by simp)]
theorem leastF_app {k : Int} : ∀ {l m : List It}, (∀ x ∈ l, x.f0 = k) → (∀ x ∈ m, x.f0 ≠ k) → leastF (some k) (l ++ m) = leastF none m
  | [], m, _, h => leastF_free fun x hx e => h x hx (Option.some.inj e).symm
  | x :: l, m, h1, h2 => by
    rw [List.cons_append, leastF, if_pos (by rw [h1 x List.mem_cons_self])]
    exact leastF_app (fun y hy => h1 y (List.mem_cons_of_mem _ hy)) h2
theorem leastF_apps {k : Int} {l m : List It} (h1 : ∀ x ∈ l, x.f0 = k) (h2 : ∀ x ∈ m, x.f0 ≠ k) : leastF none (l ++ m) = l.take 1 ++ leastF none m := by
  cases l with
  | nil => rfl
  | cons x l =>
    rw [List.cons_append, leastF, if_neg (by simp), h1 x List.mem_cons_self, leastF_app (fun y hy => h1 y (List.mem_cons_of_mem _ hy)) h2]
    rfl
theorem keysL_once {s : List It} (hs : setOk s = true) : keysL s 2 4 = onceL s := by
  have := sumK_once s
  unfold sumK setOnce at this
  rw [hs] at this
  exact this
theorem keysL_4 (s : List It) (kind : Int) : keysL s kind 4 = keyL s 0 kind ++ (keyL s 1 kind ++ (keyL s 2 kind ++ keyL s 3 kind)) := by
  unfold keysL; simp [List.range_succ]
theorem keysL_least {s : List It} (hs : setOk s = true) : keysL s 3 4 = leastL s := by
  have h1 : onceL s = keyO s 0 ++ (keyO s 1 ++ (keyO s 2 ++ keyO s 3)) := by
    rw [← keysL_once hs, keysL_4]; rfl
  unfold leastL
  rw [h1, keysL_4]
  have k : ∀ j : Int, ∀ x ∈ keyO s j, x.f0 = j := fun j x hx => (keyO_keys s j x hx).1
  rw [leastF_apps (k 0) (fun x hx => by
    rcases List.mem_append.1 hx with hx | hx
    · rw [k 1 x hx]; decide
    · rcases List.mem_append.1 hx with hx | hx
      · rw [k 2 x hx]; decide
      · rw [k 3 x hx]; decide)]
  rw [leastF_apps (k 1) (fun x hx => by
    rcases List.mem_append.1 hx with hx | hx
    · rw [k 2 x hx]; decide
    · rw [k 3 x hx]; decide)]
  rw [leastF_apps (k 2) (fun x hx => by rw [k 3 x hx]; decide)]
  have e3 : leastF none (keyO s 3) = (keyO s 3).take 1 := by
    have := leastF_apps (k 3) (m := []) (fun x hx => by cases hx)
    rw [List.append_nil] at this
    rw [this]; simp [leastF]
  rw [e3]; rfl
theorem keysL_lw {s : List It} (hs : setOk s = true) {kind : Int} (k1 : 1 ≤ kind) (k3 : kind ≤ 3) : keysL s kind 4 = lwSum s kind := by
  unfold lwSum setCount setOnce setLeast
  rw [hs]
  rcases (show kind = 1 ∨ kind = 2 ∨ kind = 3 by omega) with rfl | rfl | rfl
  · rfl
  · exact keysL_once hs
  · exact keysL_least hs
theorem present_setOkR {a : List Rw} (ha : rowsOk a = true) (t : Tm) : setOk (present a t) = true := by
  obtain ⟨h1, h2⟩ := rowsOk_all ha
  have hm : mass a ≤ 99999 * a.length := mass_le (c := 99999) fun r hr => by have := rowOk_in (h2 r hr); omega
  have h3 := mass_presentOf a t
  have h4 := presentOf_len a t
  unfold present
  refine setOk_items (fun y hy => ?_) (by omega) (by omega)
  obtain ⟨r, hr, rfl⟩ := presentOf_mem hy
  have := rowOk_in (h2 r hr)
  unfold keyOk itemOf; simp only; omega
theorem flowSum_ok {a : List Rw} {kind : Int} : batchOk (flowSum a kind) = true := by
  unfold flowSum
  split
  · unfold fit
    split
    · assumption
    · rfl
  · rfl
theorem batchOk_rows {l : List Rw} (h : batchOk l = true) : rowsOk l = true := by unfold batchOk at h; rw [Bool.and_eq_true] at h; exact h.2
theorem batchAt_ok {l : List Rw} {t : Tm} (hl : rowsOk l = true) (ht : tOk t = true) : batchAt l t = present l t := by unfold batchAt; rw [hl, ht]; rfl
/-- FnFlowSum, told plainly -/
theorem flowSum_at {a : List Rw} {kind : Int} (ha : rowsOk a = true) (hn : a.length ≤ 12) : ∀ t, tOk t = true → batchAt (flowSum a kind) t = lwSum (batchAt a t) kind := fun t ht => by
  by_cases hk : 1 ≤ kind ∧ kind ≤ 3
  · have e := flowSum_fits ha hn hk.1 hk.2
    rw [batchAt_ok (batchOk_rows flowSum_ok) ht, batchAt_ok ha ht, e, present_sum ha hk.1 hk.2, keysL_lw (present_setOkR ha t) hk.1 hk.2]
  · have e : flowSum a kind = [] := by
      unfold flowSum
      rw [if_neg]
      simp only [Bool.and_eq_true, decide_eq_true_eq]
      omega
    rw [e, batchAt_nil]
    unfold lwSum
    rw [if_neg (by omega), if_neg (by omega), if_neg (by omega)]
theorem tmin_or (a b : Int) : tmin a b ≤ a ∧ tmin a b ≤ b ∧ (tmin a b = a ∨ tmin a b = b) := by unfold tmin; split <;> omega
theorem tMeet_ok {s t : Tm} (hs : tOk s = true) (ht : tOk t = true) : tMeet s t = ⟨tmin s.f0 t.f0, tmin s.f1 t.f1⟩ := by unfold tMeet; rw [hs, ht]; rfl
theorem tMeet_in {s t : Tm} (hs : tOk s = true) (ht : tOk t = true) : tOk (tMeet s t) = true := by
  rw [tMeet_ok hs ht]
  simp only [tOk, Bool.and_eq_true, decide_eq_true_eq] at hs ht ⊢
  have h0 := tmin_or s.f0 t.f0
  have h1 := tmin_or s.f1 t.f1
  omega
theorem below_meet {c d t : Tm} (hc : tOk c = true) (hd : tOk d = true) : below t (tMeet c d) = (below t c && below t d) := by
  rw [tMeet_ok hc hd, Bool.eq_iff_iff]
  simp only [below, Bool.and_eq_true, decide_eq_true_eq]
  have h0 := tmin_or c.f0 d.f0
  have h1 := tmin_or c.f1 d.f1
  omega
theorem meet_below {c d : Tm} (hc : tOk c = true) (hd : tOk d = true) : below (tMeet c d) c = true ∧ below (tMeet c d) d = true := by
  rw [tMeet_ok hc hd]
  simp only [below, Bool.and_eq_true, decide_eq_true_eq]
  have h0 := tmin_or c.f0 d.f0
  have h1 := tmin_or c.f1 d.f1
  omega
theorem moveGo_in {t : Tm} (ht : tOk t = true) : ∀ (l : List Tm) (o : Tm), tOk o = true → (∀ s ∈ l, tOk s = true) → below t o = true →
    tOk (moveGo t o l) = true ∧ below t (moveGo t o l) = true ∧ below (moveGo t o l) o = true ∧ ∀ s ∈ l, below (moveGo t o l) (tJoin s t) = true
  | [], o, ho, _, hb => ⟨ho, hb, below_refl _, fun s hs => by cases hs⟩
  | s :: l, o, ho, hl, hb => by
    have hs := hl s List.mem_cons_self
    have hj := tJoin_okk hs ht
    have hbj := (below_joinL hs ht).2
    obtain ⟨i1, i2, i3, i4⟩ := moveGo_in ht l (tMeet o (tJoin s t)) (tMeet_in ho hj) (fun u hu => hl u (List.mem_cons_of_mem _ hu)) (by rw [below_meet ho hj, hb, hbj]; rfl)
    obtain ⟨m1, m2⟩ := meet_below ho hj
    rw [moveGo]
    refine ⟨i1, i2, below_trans i3 m1, fun u hu => ?_⟩
    rcases List.mem_cons.1 hu with rfl | hu
    · exact below_trans i3 m2
    · exact i4 u hu
theorem frontOk_all : ∀ {f : List Tm}, frontOk f = true → ∀ s ∈ f, tOk s = true := fun {f} h => by
  have go : ∀ (l : List Tm) (p : Tm), frontGo p l = true → ∀ s ∈ l, tOk s = true := fun l => by
    induction l with
    | nil => intro p _ s hs; cases hs
    | cons x l ih =>
      intro p hp s hs
      simp only [frontGo, Bool.and_eq_true] at hp
      rcases List.mem_cons.1 hs with rfl | hs
      · exact hp.1.1
      · exact ih x hp.2 s hs
  cases f with
  | nil => intro s hs; cases hs
  | cons x f =>
    intro s hs
    simp only [frontOk, Bool.and_eq_true] at h
    rcases List.mem_cons.1 hs with rfl | hs
    · exact h.1
    · exact go f x h.2 s hs
theorem moved_ok {f : List Tm} {s : Tm} (hf : ∀ u ∈ f, tOk u = true) (hs : tOk s = true) : tOk (moved f s) = true ∧ below s (moved f s) = true ∧ ∀ u ∈ f, below (moved f s) (tJoin u s) = true := by
  cases f with
  | nil => exact ⟨hs, below_refl _, fun u hu => by cases hu⟩
  | cons u f =>
    have hu := hf u List.mem_cons_self
    obtain ⟨i1, i2, i3, i4⟩ := moveGo_in hs (u :: f) (tJoin u s) (tJoin_okk hu hs) hf (below_joinL hu hs).2
    exact ⟨i1, i2, i4⟩
/-- a time is moved to a front: it is not later than a time there than it was -/
theorem moved_below {f : List Tm} {s t : Tm} (hf : ∀ u ∈ f, tOk u = true) (hs : tOk s = true) (ht : f = [] ∨ beyond f t = true) : below (moved f s) t = below s t := by
  obtain ⟨i1, i2, i3⟩ := moved_ok hf hs
  rcases ht with rfl | ht
  · rfl
  · rw [Bool.eq_iff_iff]
    refine ⟨fun h => below_trans i2 h, fun h => ?_⟩
    obtain ⟨u, hu, hb⟩ := List.any_eq_true.1 ht
    refine below_trans (i3 u hu) ?_
    rw [below_join (hf u hu) hs, hb, h]; rfl
theorem mv_ok {f : List Tm} {r : Rw} (hf : ∀ u ∈ f, tOk u = true) (hr : rowOk r = true) : rowOk (mv f r) = true := by
  simp only [rowOk, Bool.and_eq_true] at hr ⊢
  exact ⟨⟨⟨hr.1.1.1, (moved_ok hf hr.1.1.2).1⟩, hr.1.2⟩, hr.2⟩
theorem mass_mv (f : List Tm) (l : List Rw) : mass (l.map (mv f)) = mass l := sg_map _ _ _
theorem FewR.mv {c : Int} {n : Nat} {l : List Rw} {f : List Tm} (hf : ∀ u ∈ f, tOk u = true) (h : FewR c n l) : FewR c n (l.map (X.mv f)) :=
  ⟨by rw [mass_mv]; exact h.mass, by rw [List.length_map]; exact h.len, fun y hy => by obtain ⟨r, hr, rfl⟩ := List.mem_map.1 hy; exact mv_ok hf (h.ok r hr)⟩
theorem sh_mv {f : List Tm} {l : List Rw} {t : Tm} (hf : ∀ u ∈ f, tOk u = true) (hl : ∀ r ∈ l, rowOk r = true) (ht : f = [] ∨ beyond f t = true) (ψ : Int → Int → Int) : sg (sh (upW t ψ)) (l.map (mv f)) = sg (sh (upW t ψ)) l := by
  rw [sg_map]
  refine sg_congr fun r hr => ?_
  have := moved_below hf (rowOk_tm (hl r hr)) ht
  unfold sh upW mv
  simp only [this]
/-- moved rows say the same at the front, and behind it -/
theorem batchMove_few {a : List Rw} {f : List Tm} {c : Int} {n : Nat} (ha : rowsOk a = true) (hf : frontOk f = true) (fa : FewR c n a) (hc : c ≤ 99999) (hn : n ≤ 400) : FewR c n (batchMove a f) ∧ ∀ t, (f = [] ∨ beyond f t = true) → present (batchMove a f) t = present a t := by
  have hf' := frontOk_all hf
  have fm := fa.mv hf'
  have e : batchMove a f = sum (a.map (X.mv f)) := by unfold batchMove; rw [ha, hf]; exact fm.fit hc hn
  have fs := fm.sum hc
  rw [e]
  refine ⟨fs, fun t ht => ?_⟩
  have m1 := fm.mass
  have m2 := fa.mass
  have p1 := (present_mass fs hc t).2
  have p2 := (present_mass fa hc t).2
  unfold present
  refine items_eq (by omega) (by omega) (fun ψ => ?_)
  rw [sh_present', sh_present', sum_sh (by omega), sh_mv hf' fa.ok ht]
theorem covers_beyond {f : List Tm} {t : Tm} (h : covers f t = true) : beyond f t = true := by
  unfold covers at h
  rw [Bool.and_eq_true] at h
  obtain ⟨s, hs, hb⟩ := List.any_eq_true.1 h.2
  unfold tLess at hb
  simp only [Bool.and_eq_true] at hb
  exact List.any_eq_true.2 ⟨s, hs, hb.2⟩
/-- FnFlowSumMove, told plainly -/
theorem flowSum_move {a : List Rw} {f : List Tm} {kind : Int} (ha : rowsOk a = true) (hf : frontOk f = true) (fa : FewR 40 12 a) : ∀ t, tOk t = true → (f = [] ∨ covers f t = true) → batchAt (flowSum a kind) t = batchAt (flowSum (batchMove a f) kind) t := fun t ht hc => by
  have hc' : f = [] ∨ beyond f t = true := hc.imp id covers_beyond
  obtain ⟨ga, pa⟩ := batchMove_few ha hf fa (by omega) (by omega)
  have ra := ga.rows (by omega)
  rw [flowSum_at ha fa.len t ht, flowSum_at ra ga.len t ht, batchAt_ok ha ht, batchAt_ok ra ht, pa t hc']
end Go.Proofs.YthljcnlmeefcjaaGreat.X

