/- What flows say of batches at a time. Plain lemmas. Conditions: few rows, small. -/
import Derived.Test.YtlmglffdmoklcaaXPlR
import Derived.Test.YtlmglffdmoklcaaXPlS
namespace Go.Proofs.Ytlmglffdmoklcaa.X
open Go.RowKit
set_option linter.unusedVariables false
set_option linter.unusedSimpArgs false

/-- a weight that counts what is not later than a time -/
def upW (t : Tm) (ψ : Int → Int → Int) : Wt := fun a b c => if below c t = true then ψ a b else 0
theorem sh_present' (ψ : Int → Int → Int) (l : List Rw) (t : Tm) : sg (shI ψ) (presentOf l t) = sg (sh (upW t ψ)) l := sh_present ψ l t
theorem eachW_up (how : Int) (t : Tm) (ψ : Int → Int → Int) : eachW3 how (upW t ψ) = upW t (eachW how ψ) := by
  funext a b c
  unfold eachW3 upW eachW
  cases eachKV a b how with
  | none => simp
  | some p => obtain ⟨p, q⟩ := p; rfl
theorem present_nil (t : Tm) : present [] t = [] := rfl
theorem batchAt_nil (t : Tm) : batchAt [] t = [] := by unfold batchAt; split <;> rfl
theorem present_mass {l : List Rw} {c : Int} {n : Nat} (h : FewR c n l) (hc : c ≤ 99999) (t : Tm) : massI (present l t) ≤ c ∧ massI (presentOf l t) ≤ c := by
  have h1 := mass_presentOf l t
  have h2 := h.mass
  have h3 := items_mass (l := presentOf l t) (by omega)
  unfold present
  exact ⟨by omega, by omega⟩
/-- FnFlowEach, told plainly -/
theorem flowEach_at {a : List Rw} {how : Int} (ha : rowsOk a = true) (da : RowsD a) : ∀ t, tOk t = true → batchAt (flowEach a how) t = setEach (batchAt a t) how := fun t ht => by
  have fa := FewR.of ha da
  have fe := fa.each how
  have e1 := fe.fit (by omega) (by omega)
  have fs := fe.sum (by omega)
  have r1 := fs.rows (by omega)
  have s1 := present_setOk fa (by omega) (by omega) t
  by_cases hh : (decide (1 ≤ how) && decide (how ≤ 7)) = true
  · have ef : flowEach a how = sum (a.flatMap (eachR how)) := by unfold flowEach; rw [ha, Bool.true_and, if_pos hh, e1]
    have eb : batchAt a t = present a t := by unfold batchAt; rw [ha, ht]; rfl
    rw [ef, eb]
    unfold batchAt setEach
    have hh2 := hh
    rw [Bool.and_eq_true] at hh2
    obtain ⟨u1, u2⟩ := hh2
    simp only [r1, ht, s1, u1, u2, Bool.and_self, if_true]
    obtain ⟨m1, m2⟩ := present_mass fs (by omega) t
    obtain ⟨m3, m4⟩ := present_mass fa (by omega) t
    have m5 := mass_each how (present a t)
    have m6 := fe.mass
    show items (presentOf _ t) = _
    refine items_eq (by omega) (by omega) (fun ψ => ?_)
    rw [sh_present', sum_sh (by omega), sh_eachR, eachW_up, sh_each]
    show _ = sg (shI _) (items (presentOf a t))
    rw [items_sh (by omega), sh_present']
  · have ef : flowEach a how = [] := by unfold flowEach; rw [ha, Bool.true_and, if_neg hh]
    rw [ef, batchAt_nil]
    unfold setEach
    rw [Bool.and_assoc, Bool.eq_false_iff.2 hh, Bool.and_false]; rfl
theorem below_join {c d t : Tm} (hc : tOk c = true) (hd : tOk d = true) : below (tJoin c d) t = (below c t && below d t) := by
  unfold tJoin; rw [hc, hd]
  simp only [Bool.and_self, if_true, below, tmax]
  rw [Bool.eq_iff_iff]
  simp only [Bool.and_eq_true, decide_eq_true_eq]
  split <;> split <;> omega
/-- FnFlowJoin, told plainly -/
theorem flowJoin_at {a b : List Rw} (ha : rowsOk a = true) (hb : rowsOk b = true) (da : RowsD a) (db : RowsD b) : ∀ t, tOk t = true → batchAt (flowJoin a b) t = setJoin (batchAt a t) (batchAt b t) := fun t ht => by
  have fa := FewR.of ha da
  have fb := FewR.of hb db
  have fp := fa.pairs fb (by omega)
  have e1 := fp.fit (by omega) (by omega)
  have fs := fp.sum (by omega)
  have r1 := fs.rows (by omega)
  have s1 := present_setOk fa (by omega) (by omega) t
  have s2 := present_setOk fb (by omega) (by omega) t
  have ef : flowJoin a b = sum (pairsR a b) := by unfold flowJoin; rw [ha, hb]; simp only [Bool.and_self, if_true]; exact e1
  have ea : batchAt a t = present a t := by unfold batchAt; rw [ha, ht]; rfl
  have eb : batchAt b t = present b t := by unfold batchAt; rw [hb, ht]; rfl
  rw [ef, ea, eb]
  unfold batchAt setJoin
  simp only [r1, ht, s1, s2, Bool.and_self, if_true]
  obtain ⟨m1, m2⟩ := present_mass fs (by omega) t
  obtain ⟨m3, m4⟩ := present_mass fa (by omega) t
  obtain ⟨m5, m6⟩ := present_mass fb (by omega) t
  have m7 := fp.mass
  have p0 := mul_small (c := 30) (d := 30) m3 m5 (by omega) (by omega)
  have p1 := mass_pairs (c := 1000000) p0 (by omega)
  show items (presentOf _ t) = _
  refine items_eq (by omega) (by omega) (fun ψ => ?_)
  rw [sh_present', sum_sh (by omega), sh_pairsR fa.ok fb.ok, sh_pairs p0 (by omega)]
  show _ = sg (shI _) (items (presentOf a t))
  rw [items_sh (by omega), sh_present']
  refine sg_congr fun x hx => ?_
  have hxt : tOk x.f2 = true := by have := fa.ok x hx; simp only [rowOk, Bool.and_eq_true] at this; exact this.1.1.2
  unfold sh
  congr 1
  have ej : ∀ k v, joinW (present b t) ψ k v = sg (sh (upW t (fun a' b' => if k = a' then ψ k (jval v b') else 0))) b := fun k v => by
    have : joinW (present b t) ψ k v = sg (shI (fun a' b' => if k = a' then ψ k (jval v b') else 0)) (items (presentOf b t)) := by
      unfold joinW present
      exact sg_congr fun y _ => by unfold shI; by_cases hk : k = y.f0 <;> simp [hk]
    rw [this, items_sh (by omega), sh_present']
  show joinW3 b (upW t ψ) x.f0 x.f1 x.f2 = upW t (joinW (present b t) ψ) x.f0 x.f1 x.f2
  unfold joinW3
  rw [show upW t (joinW (present b t) ψ) x.f0 x.f1 x.f2 = if below x.f2 t = true then joinW (present b t) ψ x.f0 x.f1 else 0 from rfl, ej]
  by_cases hx0 : below x.f2 t = true
  · rw [if_pos hx0]
    refine sg_congr fun y hy => ?_
    have hyt : tOk y.f2 = true := by have := fb.ok y hy; simp only [rowOk, Bool.and_eq_true] at this; exact this.1.1.2
    unfold sh upW
    rw [below_join hxt hyt, hx0, Bool.true_and]
    by_cases h1 : x.f0 = y.f0 <;> by_cases h2 : below y.f2 t = true <;> simp [h1, h2]
  · rw [if_neg hx0]
    refine sg_zero fun y hy => ?_
    have hyt : tOk y.f2 = true := by have := fb.ok y hy; simp only [rowOk, Bool.and_eq_true] at this; exact this.1.1.2
    unfold upW
    rw [below_join hxt hyt, Bool.eq_false_iff.2 hx0]; simp
end Go.Proofs.Ytlmglffdmoklcaa.X
