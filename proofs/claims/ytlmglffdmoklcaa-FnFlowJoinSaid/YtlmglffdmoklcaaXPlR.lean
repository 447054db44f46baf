/- What holds of rows: changes of unions, mapped and paired. Plain lemmas. Conditions: few rows, small. -/
import Derived.Test.YtlmglffdmoklcaaXFl2
import Derived.Test.YtlmglffdmoklcaaXDrRow3
namespace Go.Proofs.Ytlmglffdmoklcaa.X
open Go.RowKit
set_option linter.unusedVariables false
set_option linter.unusedSimpArgs false

/-- rows in bounds, of which there are few copies -/
structure FewR (c : Int) (n : Nat) (l : List Rw) : Prop where
  mass : mass l ≤ c
  len : l.length ≤ n
  ok : ∀ r ∈ l, rowOk r = true
theorem FewR.of {l : List Rw} (h : rowsOk l = true) (hd : RowsD l) : FewR 30 10 l := by
  obtain ⟨h1, h2⟩ := hd.2 h
  have hm : X.mass l ≤ 3 * l.length := mass_le (c := 3) fun r hr => by have := h1 r hr; unfold small at this; omega
  exact ⟨by omega, h2, (rowsOk_all h).2⟩
theorem FewR.append {c d : Int} {n m : Nat} {l k : List Rw} (h : FewR c n l) (g : FewR d m k) : FewR (c + d) (n + m) (l ++ k) :=
  ⟨by rw [mass_append]; have := h.mass; have := g.mass; omega, by rw [List.length_append]; have := h.len; have := g.len; omega, fun x hx => (List.mem_append.1 hx).elim (h.ok x) (g.ok x)⟩
theorem FewR.sum {c : Int} {n : Nat} {l : List Rw} (h : FewR c n l) (hc : c ≤ 99999) : FewR c n (X.sum l) := by
  have hm := h.mass
  have h1 := sum_mass (l := l) (by omega)
  have h2 := sum_len l
  refine ⟨by omega, by have := h.len; omega, fun r hr => ?_⟩
  obtain ⟨x, hx, e⟩ := sum_from r hr
  have := mass_mem hr
  exact rowOk_key e (h.ok x hx) (by omega)
theorem FewR.batch {c : Int} {n : Nat} {l : List Rw} (h : FewR c n l) (hc : c ≤ 99999) (hn : n ≤ 400) : batchOk (X.sum l) = true := batchOk_sum h.ok (by have := h.mass; omega) (by have := h.len; omega)
theorem FewR.rows {c : Int} {n : Nat} {l : List Rw} (h : FewR c n l) (hn : n ≤ 400) : rowsOk l = true := by
  unfold rowsOk; rw [decide_eq_true (show l.length ≤ 400 by have := h.len; omega), Bool.and_true, List.all_eq_true]; exact h.ok
theorem FewR.fit {c : Int} {n : Nat} {l : List Rw} (h : FewR c n l) (hc : c ≤ 99999) (hn : n ≤ 400) : X.fit (X.sum l) = X.sum l := fit_yes (h.batch hc hn)
theorem FewR.nil : FewR 0 0 [] := ⟨by simp [X.mass, sg], by simp, fun r hr => by cases hr⟩
theorem shR_append (φ : Wt) (s t : List Rw) : sg (sh φ) (s ++ t) = sg (sh φ) s + sg (sh φ) t := sg_append _ _ _
/-- a sum of sums -/
theorem sum_sums {l m : List Rw} (h : mass l ≤ 2000000) (g : mass m ≤ 2000000) : sum (sum l ++ sum m) = sum (l ++ m) := by
  have h1 := sum_mass (l := l) (by omega)
  have h2 := sum_mass (l := m) (by omega)
  refine sum_eq (by rw [mass_append]; omega) (by rw [mass_append]; omega) (fun φ => ?_)
  rw [shR_append, shR_append, sum_sh (by omega), sum_sh (by omega)]
/-! mapped rows -/
def eachW3 (how : Int) (φ : Wt) : Wt := fun a b t => match eachKV a b how with | some (p, q) => φ p q t | none => 0
theorem sh_eachR (how : Int) (φ : Wt) (s : List Rw) : sg (sh φ) (s.flatMap (eachR how)) = sg (sh (eachW3 how φ)) s := by
  rw [sg_flatMap]
  refine sg_congr fun x _ => ?_
  unfold eachR sh eachW3
  cases eachKV x.f0 x.f1 how with
  | none => simp [sg]
  | some p => obtain ⟨a, b⟩ := p; simp [sg]
theorem mass_eachR (how : Int) (s : List Rw) : mass (s.flatMap (eachR how)) ≤ mass s := by
  unfold mass
  rw [sg_flatMap]
  refine sg_le fun x _ => ?_
  unfold eachR
  cases eachKV x.f0 x.f1 how with
  | none => simp [sg]
  | some p => obtain ⟨a, b⟩ := p; simp [sg]
theorem FewR.each {c : Int} {n : Nat} {s : List Rw} (h : FewR c n s) (how : Int) : FewR c n (s.flatMap (eachR how)) := ⟨Int.le_trans (mass_eachR how s) h.mass, Nat.le_trans (eachR_len how s) h.len, eachR_ok h.ok⟩
/-- FnFlowEachBoth, told plainly -/
theorem flowEach_both {a b : List Rw} {how : Int} (ha : rowsOk a = true) (hb : rowsOk b = true) (da : RowsD a) (db : RowsD b) :
    flowEach (batchBoth a b) how = batchBoth (flowEach a how) (flowEach b how) := by
  have fa := FewR.of ha da
  have fb := FewR.of hb db
  have fs := (fa.append fb).sum (by omega)
  have fea := fa.each how
  have feb := fb.each how
  have e1 := (fa.append fb).fit (by omega) (by omega)
  have e2 := fea.fit (by omega) (by omega)
  have e3 := feb.fit (by omega) (by omega)
  have e4 := (fs.each how).fit (by omega) (by omega)
  have fsum := (fea.sum (by omega)).append (feb.sum (by omega))
  have e5 := fsum.fit (by omega) (by omega)
  have r1 := fs.rows (by omega)
  have r2 := (fea.sum (by omega)).rows (by omega)
  have r3 := (feb.sum (by omega)).rows (by omega)
  have m1 := fa.mass
  have m2 := fb.mass
  have m3 := fea.mass
  have m4 := feb.mass
  have m5 := (fs.each how).mass
  have m6 : mass (a ++ b) ≤ 60 := by rw [mass_append]; omega
  unfold flowEach batchBoth
  rw [ha, hb]
  simp only [Bool.and_self, Bool.true_and, if_true]
  rw [e1, r1]
  simp only [Bool.true_and]
  by_cases hh : (decide (1 ≤ how) && decide (how ≤ 7)) = true
  · rw [if_pos hh, if_pos hh, if_pos hh, e2, e3, r2, r3, e4]
    simp only [Bool.and_self, if_true]
    rw [e5, sum_sums (by omega) (by omega)]
    refine sum_eq (by omega) (by rw [mass_append]; omega) (fun φ => ?_)
    rw [sh_eachR, sum_sh (by omega), shR_append, shR_append, sh_eachR, sh_eachR]
  · rw [if_neg hh, if_neg hh, if_neg hh]; rfl
/-! paired rows -/
theorem mul_small3 {x y : Rw} (hx : rowOk x = true) (hy : rowOk y = true) : wrap64 (x.f3 * y.f3) = x.f3 * y.f3 := by
  have h := (pairR_in hx hy).2.2.2.2.2.1
  exact h
theorem mass_pairsR {s t : List Rw} (hs : ∀ r ∈ s, rowOk r = true) (ht : ∀ r ∈ t, rowOk r = true) : mass (pairsR s t) ≤ mass s * mass t := by
  unfold pairsR mass
  rw [sg_flatMap]
  have e : sg (fun r : Rw => (r.f3.natAbs : Int)) s * sg (fun r : Rw => (r.f3.natAbs : Int)) t = sg (fun x => (x.f3.natAbs : Int) * sg (fun r : Rw => (r.f3.natAbs : Int)) t) s := by rw [sg_mul']
  rw [e]
  refine sg_le fun x hx => ?_
  unfold jrowR
  rw [sg_map, sg_filter, ← sg_mul]
  refine sg_le fun y hy => ?_
  have h1 : ((x.f3 * y.f3).natAbs : Int) = (x.f3.natAbs : Int) * (y.f3.natAbs : Int) := by rw [Int.natAbs_mul]; simp
  have h3 : 0 ≤ (x.f3.natAbs : Int) * (y.f3.natAbs : Int) := Int.mul_nonneg (Int.natCast_nonneg _) (Int.natCast_nonneg _)
  split
  · simp only [pairR, mul_small3 (hs x hx) (ht y hy), h1]; exact Int.le_refl _
  · exact h3
/-- what the pairs with t weigh, and what those with s weigh -/
def joinW3 (t : List Rw) (φ : Wt) : Wt := fun a b c => sg (fun y => if a = y.f0 then y.f3 * φ a (jval b y.f1) (tJoin c y.f2) else 0) t
def joinW4 (s : List Rw) (φ : Wt) : Wt := fun a b c => sg (fun x => if x.f0 = a then x.f3 * φ a (jval x.f1 b) (tJoin x.f2 c) else 0) s
theorem sh_pairsR {s t : List Rw} (hs : ∀ r ∈ s, rowOk r = true) (ht : ∀ r ∈ t, rowOk r = true) (φ : Wt) : sg (sh φ) (pairsR s t) = sg (sh (joinW3 t φ)) s := by
  unfold pairsR
  rw [sg_flatMap]
  refine sg_congr fun x hx => ?_
  unfold jrowR
  rw [sg_map, sg_filter]
  unfold sh joinW3
  rw [← sg_mul]
  refine sg_congr fun y hy => ?_
  by_cases he : x.f0 = y.f0
  · rw [if_pos (decide_eq_true he), if_pos he]
    simp only [pairR, mul_small3 (hs x hx) (ht y hy)]
    rw [Int.mul_assoc]
  · rw [if_neg (by simpa using he), if_neg he]; simp
theorem sh_pairsR2 {s t : List Rw} (hs : ∀ r ∈ s, rowOk r = true) (ht : ∀ r ∈ t, rowOk r = true) (φ : Wt) : sg (sh φ) (pairsR s t) = sg (sh (joinW4 s φ)) t := by
  rw [sh_pairsR hs ht]
  unfold sh joinW3 joinW4
  have e1 : sg (fun x : Rw => x.f3 * sg (fun y : Rw => if x.f0 = y.f0 then y.f3 * φ x.f0 (jval x.f1 y.f1) (tJoin x.f2 y.f2) else 0) t) s = sg (fun x : Rw => sg (fun y : Rw => x.f3 * (if x.f0 = y.f0 then y.f3 * φ x.f0 (jval x.f1 y.f1) (tJoin x.f2 y.f2) else 0)) t) s := sg_congr fun x _ => by rw [sg_mul]
  have e2 : sg (fun y : Rw => y.f3 * sg (fun x : Rw => if x.f0 = y.f0 then x.f3 * φ y.f0 (jval x.f1 y.f1) (tJoin x.f2 y.f2) else 0) s) t = sg (fun y : Rw => sg (fun x : Rw => y.f3 * (if x.f0 = y.f0 then x.f3 * φ y.f0 (jval x.f1 y.f1) (tJoin x.f2 y.f2) else 0)) s) t := sg_congr fun y _ => by rw [sg_mul]
  rw [e1, e2, sg_comm]
  refine sg_congr fun y _ => sg_congr fun x _ => ?_
  by_cases he : x.f0 = y.f0
  · rw [if_pos he, if_pos he, he, ← Int.mul_assoc, ← Int.mul_assoc, Int.mul_comm x.f3 y.f3]
  · rw [if_neg he, if_neg he]; simp
theorem FewR.pairs {c d : Int} {n m : Nat} {s t : List Rw} (h : FewR c n s) (g : FewR d m t) (hcd : c * d ≤ 99999) : FewR (c * d) (m * n) (pairsR s t) := by
  have h0 := mass_nonneg s
  have h1 := mass_nonneg t
  have hm := h.mass
  have gm := g.mass
  have hb : X.mass s * X.mass t ≤ c * d := Int.mul_le_mul hm gm h1 (by omega)
  have hp := mass_pairsR h.ok g.ok
  refine ⟨by omega, Nat.le_trans (pairsR_len t s) (Nat.mul_le_mul g.len h.len), fun z hz => ?_⟩
  have hz2 := mass_mem hz
  obtain ⟨x, hx, hz⟩ := List.mem_flatMap.1 hz
  obtain ⟨y, hy, rfl⟩ := List.mem_map.1 hz
  obtain ⟨h0, h1, h2, h3, h4, h5, h6⟩ := pairR_in (h.ok x hx) (g.ok y (List.mem_filter.1 hy).1)
  simp only [rowOk, h4, Bool.and_true, Bool.and_eq_true, decide_eq_true_eq]
  omega
/-- FnFlowJoinBoth, told plainly -/
theorem flowJoin_both {a b c : List Rw} (ha : rowsOk a = true) (hb : rowsOk b = true) (hc : rowsOk c = true) (da : RowsD a) (db : RowsD b) (dc : RowsD c) :
    flowJoin (batchBoth a c) b = batchBoth (flowJoin a b) (flowJoin c b) ∧ flowJoin a (batchBoth b c) = batchBoth (flowJoin a b) (flowJoin a c) := by
  have fa := FewR.of ha da
  have fb := FewR.of hb db
  have fc := FewR.of hc dc
  have fac := (fa.append fc).sum (by omega)
  have fbc := (fb.append fc).sum (by omega)
  have pab := fa.pairs fb (by omega)
  have pcb := fc.pairs fb (by omega)
  have pac := fa.pairs fc (by omega)
  have p1 := fac.pairs fb (by omega)
  have p2 := fa.pairs fbc (by omega)
  have sab := pab.sum (by omega)
  have scb := pcb.sum (by omega)
  have sac := pac.sum (by omega)
  have e1 := (fa.append fc).fit (by omega) (by omega)
  have e2 := (fb.append fc).fit (by omega) (by omega)
  have e3 := pab.fit (by omega) (by omega)
  have e4 := pcb.fit (by omega) (by omega)
  have e5 := pac.fit (by omega) (by omega)
  have e6 := p1.fit (by omega) (by omega)
  have e7 := p2.fit (by omega) (by omega)
  have e8 := (sab.append scb).fit (by omega) (by omega)
  have e9 := (sab.append sac).fit (by omega) (by omega)
  have r1 := fac.rows (by omega)
  have r2 := fbc.rows (by omega)
  have r3 := sab.rows (by omega)
  have r4 := scb.rows (by omega)
  have r5 := sac.rows (by omega)
  have m1 := pab.mass
  have m2 := pcb.mass
  have m3 := pac.mass
  have m4 := p1.mass
  have m5 := p2.mass
  have m6 := fa.mass
  have m7 := fb.mass
  have m8 := fc.mass
  have m9 : mass (a ++ c) ≤ 60 := by rw [mass_append]; omega
  have m10 : mass (b ++ c) ≤ 60 := by rw [mass_append]; omega
  unfold flowJoin batchBoth
  simp only [ha, hb, hc, Bool.and_self, if_true, e1, e2, r1, r2, e3, e4, e5, r3, r4, r5, e6, e7, e8, e9]
  constructor
  · rw [sum_sums (by omega) (by omega)]
    refine sum_eq (by omega) (by rw [mass_append]; omega) (fun φ => ?_)
    rw [sh_pairsR fac.ok fb.ok, sum_sh (by omega), shR_append, shR_append, sh_pairsR fa.ok fb.ok, sh_pairsR fc.ok fb.ok]
  · rw [sum_sums (by omega) (by omega)]
    refine sum_eq (by omega) (by rw [mass_append]; omega) (fun φ => ?_)
    rw [sh_pairsR2 fa.ok fbc.ok, sum_sh (by omega), shR_append, shR_append, sh_pairsR2 fa.ok fb.ok, sh_pairsR2 fa.ok fc.ok]
/-! what two batches say together -/
theorem presentOf_append (l m : List Rw) (t : Tm) : presentOf (l ++ m) t = presentOf l t ++ presentOf m t := by unfold presentOf; rw [List.filter_append, List.map_append]
theorem sh_present (ψ : Int → Int → Int) (l : List Rw) (t : Tm) : sg (shI ψ) (presentOf l t) = sg (sh fun a b c => if below c t = true then ψ a b else 0) l := by
  unfold presentOf
  rw [sh_itemOf, sg_filter]
  refine sg_congr fun x _ => ?_
  unfold sh
  by_cases h : below x.f2 t = true <;> simp [h]
theorem mass_presentOf (l : List Rw) (t : Tm) : massI (presentOf l t) ≤ mass l := by
  unfold presentOf
  rw [mass_itemOf]
  unfold mass
  rw [sg_filter]
  exact sg_le fun x _ => by split <;> omega
theorem present_setOk {c : Int} {n : Nat} {l : List Rw} (h : FewR c n l) (hc : c ≤ 99999) (hn : n ≤ 400) (t : Tm) : setOk (present l t) = true := by
  have h1 := mass_presentOf l t
  have h2 := presentOf_len l t
  have h3 := h.mass
  have h4 := h.len
  unfold present
  refine setOk_items (fun y hy => ?_) (by omega) (by omega)
  obtain ⟨r, hr, rfl⟩ := presentOf_mem hy
  have := rowOk_in (h.ok r hr)
  unfold keyOk itemOf; simp only; omega
/-- FnBatchBoth, told plainly -/
theorem batchBoth_at {a b : List Rw} (ha : rowsOk a = true) (hb : rowsOk b = true) (da : RowsD a) (db : RowsD b) :
    batchOk (batchBoth a b) = true ∧ ∀ t, tOk t = true → batchAt (batchBoth a b) t = setBoth (batchAt a t) (batchAt b t) := by
  have fa := FewR.of ha da
  have fb := FewR.of hb db
  have fab := fa.append fb
  have e1 := fab.fit (by omega) (by omega)
  have b1 := fab.batch (by omega) (by omega)
  have fs := fab.sum (by omega)
  have r1 := fs.rows (by omega)
  have m0 := fab.mass
  have eb : batchBoth a b = sum (a ++ b) := by unfold batchBoth; rw [ha, hb]; simp only [Bool.and_self, if_true]; exact e1
  rw [eb]
  refine ⟨b1, fun t ht => ?_⟩
  have s1 := present_setOk fa (by omega) (by omega) t
  have s2 := present_setOk fb (by omega) (by omega) t
  unfold batchAt setBoth
  simp only [ha, hb, r1, ht, Bool.and_self, if_true, s1, s2]
  unfold present
  have p0 := mass_presentOf (sum (a ++ b)) t
  have p1 := mass_presentOf a t
  have p2 := mass_presentOf b t
  have q0 := fs.mass
  have q1 := fa.mass
  have q2 := fb.mass
  have i1 := items_mass (l := presentOf a t) (by omega)
  have i2 := items_mass (l := presentOf b t) (by omega)
  refine items_eq (by omega) (by rw [massI_append]; omega) (fun ψ => ?_)
  rw [sh_append, items_sh (by omega), items_sh (by omega), sh_present, sh_present, sh_present, sum_sh (by omega), shR_append]
end Go.Proofs.Ytlmglffdmoklcaa.X
