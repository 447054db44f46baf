/- Whether a plan is ok: both functions answer the same. Conditions: none. -/
import Derived.Test.YtffibnbnabppjaaDoorXPnK
import Derived.Test.YtffibnbnabppjaaDoorXBs
namespace Go.Proofs.YtffibnbnabppjaaDoor.X
open Go.RowKit Go.Proofs.YtffibnbnabppjaaDoor.PPlP Go.Proofs.YtffibnbnabppjaaDoorW.PrintWords
set_option linter.unusedVariables false
set_option linter.unusedSimpArgs false

/-- How many inputs a kind has, and the bounds of its number. -/
def kids3 (a : Int) : Int × Int × Int :=
  if a = 1 then (0, 0, 1) else if a = 2 then (1, 1, 7) else if a = 3 then (2, 0, 0) else if a = 5 then (2, 0, 0) else if a = 4 then (1, 0, 0) else if a = 6 then (1, 1, 3) else (-1, 0, 0)

theorem kids_impl (a : Int) : Ev (fun k => impl_kidsOf.f k a) (kids3 a) := by
  refine Ev.succ ⟨0, fun k _ => ?_⟩
  simp only [impl_kidsOf.f, impl_kidsOf.j0, kids3]
  by_cases h1 : a = 1 <;> by_cases h2 : a = 2 <;> by_cases h3 : a = 3 <;> by_cases h5 : a = 5 <;> by_cases h4 : a = 4 <;> by_cases h6 : a = 6 <;> simp [*]

theorem kids_spec (a : Int) : Ev (fun k => spec_l21Kids.f k a) (kids3 a) := by
  refine Ev.succ ⟨0, fun k _ => ?_⟩
  simp only [spec_l21Kids.f, spec_l21Kids.j0, kids3]
  by_cases h1 : a = 1 <;> by_cases h2 : a = 2 <;> by_cases h3 : a = 3 <;> by_cases h5 : a = 5 <;> by_cases h4 : a = 4 <;> by_cases h6 : a = 6 <;> simp [*]

/-- A plan is ok at a depth. -/
def pok : Nat → Int → Int → List Pn → Bool
  | 0, _, _, _ => false
  | d + 1, a, b, l => decide ((l.length : Int) = (kids3 a).1 ∧ (kids3 a).2.1 ≤ b ∧ b ≤ (kids3 a).2.2) && l.all fun x => pok d x.f0 x.f1 x.f2

theorem pok_no {d : Nat} {a b : Int} {l : List Pn} (h : ¬ ((l.length : Int) = (kids3 a).1 ∧ (kids3 a).2.1 ≤ b ∧ b ≤ (kids3 a).2.2)) : pok (d + 1) a b l = false := by
  rw [pok, decide_eq_false h, Bool.false_and]
theorem pok_yes {d : Nat} {a b : Int} {l : List Pn} (h : (l.length : Int) = (kids3 a).1 ∧ (kids3 a).2.1 ≤ b ∧ b ≤ (kids3 a).2.2) : pok (d + 1) a b l = l.all fun x => pok d x.f0 x.f1 x.f2 := by
  rw [pok, decide_eq_true h, Bool.true_and]

theorem pok_more : ∀ d a b l, pok d a b l = true → pok (d + 1) a b l = true := by
  intro d
  induction d with
  | zero => intro a b l h; simp [pok] at h
  | succ d ih =>
    intro a b l h
    rw [pok] at h ⊢
    simp only [Bool.and_eq_true, List.all_eq_true] at h ⊢
    exact ⟨h.1, fun x hx => ih _ _ _ (h.2 x hx)⟩

theorem rdPn_drop (l : List Pn) (i : Nat) (h : i < l.length) : l.drop i = rd_T29 l i :: l.drop (i + 1) := by
  rw [List.drop_eq_getElem_cons h]
  simp [rd_T29, List.getD, h]

theorem iloop (d : Nat) (hd : d ≤ 4) (ih : ∀ a b l, Ev (fun k => impl_planOk.f k a b l d) (pok d a b l)) (l : List Pn) (hl : l.length ≤ 2) :
    ∀ n i, i + n = l.length → Ev (fun k => impl_planOk.l0 k ((d + 1 : Nat) : Int) l (l.length : Int) i) ((l.drop i).all fun x => pok d x.f0 x.f1 x.f2) := by
  have ew : wrap64 (((d + 1 : Nat) : Int) - 1) = d := by rw [wsmall (by omega) (by omega)]; omega
  intro n
  induction n with
  | zero =>
    intro i hi
    refine Ev.succ ?_
    simp only [impl_planOk.l0]
    rw [List.drop_eq_nil_of_le (by omega)]
    refine Ev.of (Ev.pure _) (fun k => by rw [if_neg (by omega)]; rfl)
  | succ n ihn =>
    intro i hi
    refine Ev.succ ?_
    simp only [impl_planOk.l0]
    have H := ihn (i + 1) (by omega)
    have ei : wrap64 ((i : Int) + 1) = ((i + 1 : Nat) : Int) := by rw [wsmall (by omega) (by omega)]; omega
    refine Ev.of (f := fun k => (impl_planOk.f k (rd_T29 l i).f0 (rd_T29 l i).f1 (rd_T29 l i).f2 d).bind fun t => if t = true then impl_planOk.l0 k ((d + 1 : Nat) : Int) l l.length ((i + 1 : Nat) : Int) else some false) ?_ (fun k => by rw [if_pos (by omega), if_pos (by omega), if_pos (by omega), ew, ei])
    refine Ev.bind (ih _ _ _) ?_
    rw [rdPn_drop l i (by omega), List.all_cons]
    cases hq : pok d (rd_T29 l i).f0 (rd_T29 l i).f1 (rd_T29 l i).f2
    · exact Ev.of (Ev.pure _) (fun k => by simp)
    · simpa using H

theorem kids_le (a : Int) : (kids3 a).1 ≤ 2 := by
  unfold kids3; repeat' split
  all_goals decide

theorem iok : ∀ d : Nat, d ≤ 4 → ∀ a b l, Ev (fun k => impl_planOk.f k a b l d) (pok d a b l) := by
  intro d
  induction d with
  | zero =>
    intro _ a b l
    refine Ev.succ ?_
    simp only [impl_planOk.f]
    refine Ev.bind (kids_impl a) ?_
    refine Ev.succ (Ev.of (Ev.pure _) (fun k => by rw [if_pos (by omega)]; simp [impl_planOk.j0, pok]))
  | succ d ih =>
    intro hd a b l
    refine Ev.succ ?_
    simp only [impl_planOk.f]
    refine Ev.bind (kids_impl a) ?_
    have hle := kids_le a
    by_cases hn : (kids3 a).1 < 0
    · rw [pok_no (by omega)]
      exact Ev.succ (Ev.of (Ev.pure _) (fun k => by rw [if_neg (by omega), if_pos hn]; simp [impl_planOk.j0]))
    by_cases hlen : (l.length : Int) = (kids3 a).1
    · by_cases hlo : b < (kids3 a).2.1
      · rw [pok_no (by omega)]
        exact Ev.succ (Ev.of (Ev.pure _) (fun k => by rw [if_neg (by omega), if_neg hn, if_pos hlen, if_pos hlo]; simp [impl_planOk.j0]))
      · by_cases hhi : b > (kids3 a).2.2
        · rw [pok_no (by omega)]
          exact Ev.succ (Ev.of (Ev.pure _) (fun k => by rw [if_neg (by omega), if_neg hn, if_pos hlen, if_neg hlo]; simp [impl_planOk.j0, hhi]))
        · rw [pok_yes (by omega)]
          have H := iloop d (by omega) (ih (by omega)) l (by omega) l.length 0 (by omega)
          refine Ev.succ (Ev.of H (fun k => by rw [if_neg (by omega), if_neg hn, if_pos hlen, if_neg hlo]; simp [impl_planOk.j0, hhi]))
    · rw [pok_no (by omega)]
      exact Ev.succ (Ev.of (Ev.pure _) (fun k => by rw [if_neg (by omega), if_neg hn, if_neg hlen]; simp [impl_planOk.j0]))

theorem sloop (d : Nat) (hd : d ≤ 4) (ih : ∀ a b l, Ev (fun k => spec_l21Ok.f k a b l d) (pok d a b l)) (a b : Int) (l : List Pn) (hl : l.length ≤ 2) :
    ∀ n i, i + n = l.length → Ev (fun k => spec_l21Ok.l0 k ((d + 1 : Nat) : Int) i a b l) ((l.drop i).all fun x => pok d x.f0 x.f1 x.f2) := by
  have ew : wrap64 (((d + 1 : Nat) : Int) - 1) = d := by rw [wsmall (by omega) (by omega)]; omega
  intro n
  induction n with
  | zero =>
    intro i hi
    refine Ev.succ ?_
    simp only [spec_l21Ok.l0]
    rw [List.drop_eq_nil_of_le (by omega)]
    refine Ev.of (Ev.pure _) (fun k => by rw [if_neg (by omega)]; rfl)
  | succ n ihn =>
    intro i hi
    refine Ev.succ ?_
    simp only [spec_l21Ok.l0]
    have H := ihn (i + 1) (by omega)
    have ei : wrap64 ((i : Int) + 1) = ((i + 1 : Nat) : Int) := by rw [wsmall (by omega) (by omega)]; omega
    refine Ev.of (f := fun k => (spec_l21Ok.f k (rd_T29 l i).f0 (rd_T29 l i).f1 (rd_T29 l i).f2 d).bind fun t => if t = true then spec_l21Ok.l0 k ((d + 1 : Nat) : Int) ((i + 1 : Nat) : Int) a b l else some false) ?_ (fun k => by rw [if_pos (by omega), if_pos (by omega), ew, ei])
    refine Ev.bind (ih _ _ _) ?_
    rw [rdPn_drop l i (by omega), List.all_cons]
    cases hq : pok d (rd_T29 l i).f0 (rd_T29 l i).f1 (rd_T29 l i).f2
    · exact Ev.of (Ev.pure _) (fun k => by simp)
    · simpa using H

theorem sok : ∀ d : Nat, d ≤ 4 → ∀ a b l, Ev (fun k => spec_l21Ok.f k a b l d) (pok d a b l) := by
  intro d
  induction d with
  | zero =>
    intro _ a b l
    refine Ev.succ ?_
    simp only [spec_l21Ok.f]
    refine Ev.bind (kids_spec a) ?_
    refine Ev.succ (Ev.of (Ev.pure _) (fun k => by rw [if_pos (by omega)]; simp [spec_l21Ok.j0, pok]))
  | succ d ih =>
    intro hd a b l
    refine Ev.succ ?_
    simp only [spec_l21Ok.f]
    refine Ev.bind (kids_spec a) ?_
    have hle := kids_le a
    by_cases hlen : (l.length : Int) = (kids3 a).1
    · by_cases hlo : (kids3 a).2.1 ≤ b
      · by_cases hhi : b ≤ (kids3 a).2.2
        · rw [pok_yes (by omega)]
          have H := sloop d (by omega) (ih (by omega)) a b l (by omega) l.length 0 (by omega)
          refine Ev.succ (Ev.of H (fun k => by rw [if_neg (by omega), if_pos hlen, spec_l6In.f, decide_eq_true hlo, decide_eq_true hhi]; simp [spec_l21Ok.j0]))
        · rw [pok_no (by omega)]
          exact Ev.succ (Ev.of (Ev.pure _) (fun k => by rw [if_neg (by omega), if_pos hlen, spec_l6In.f, decide_eq_true hlo, decide_eq_false hhi]; simp [spec_l21Ok.j0]))
      · rw [pok_no (by omega)]
        exact Ev.succ (Ev.of (Ev.pure _) (fun k => by rw [if_neg (by omega), if_pos hlen, spec_l6In.f, decide_eq_false hlo]; simp [spec_l21Ok.j0]))
    · rw [pok_no (by omega)]
      exact Ev.succ (Ev.of (Ev.pure _) (fun k => by rw [if_neg (by omega), if_neg hlen]; simp [spec_l21Ok.j0]))

theorem iPok (a b : Int) (l : List Pn) : Ev (fun k => impl_PlanOk.f k a b l) (pok 4 a b l) := by
  simp only [impl_PlanOk.f]
  exact Ev.bind (iok 4 (by omega) a b l) (Ev.pure _)

theorem sPok (a b : Int) (l : List Pn) : Ev (fun k => spec_PlanOk.f k a b l) (pok 4 a b l) := by
  simp only [spec_PlanOk.f]
  exact Ev.bind (sok 4 (by omega) a b l) (Ev.pure _)

/-- is a plan ok -/
def planOk (x : Pn) : Bool := pok 4 x.f0 x.f1 x.f2
theorem impl_PlanOk (x : Pn) (v : Value) (w : World) (h : Sl kPn w v x.f2) : Calls Tryd.prog 13 #[.agg #[.int .i64 x.f0, .int .i64 x.f1, v]] w (RetV w (.bool (planOk x))) := by
  obtain ⟨A, c, rfl, hc, hr⟩ := h
  obtain ⟨k, hk⟩ := (iPok x.f0 x.f1 x.f2).get
  exact impl_PlanOk.calls k x.f0 x.f1 A c x.f2 (planOk x) w hr hc hk
theorem spec_PlanOk (x : Pn) (v : Value) (w : World) (h : Sl kPn w v x.f2) : Calls Tryd.prog 10 #[.agg #[.int .i64 x.f0, .int .i64 x.f1, v]] w (RetV w (.bool (planOk x))) := by
  obtain ⟨A, c, rfl, hc, hr⟩ := h
  obtain ⟨k, hk⟩ := (sPok x.f0 x.f1 x.f2).get
  exact spec_PlanOk.calls k x.f0 x.f1 A c x.f2 (planOk x) w hr hc hk
end Go.Proofs.YtffibnbnabppjaaDoor.X
