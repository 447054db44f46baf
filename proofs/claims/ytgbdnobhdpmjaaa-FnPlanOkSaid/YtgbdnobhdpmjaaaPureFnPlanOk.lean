/- Proved: for each row of bytes that the law's hypotheses let in, the printed form of FnPlanOk answers true with enough rounds.
Conditions: those of the printed statement laws_FnPlanOk.Pure and no others. -/
import Derived.Test.YtgbdnobhdpmjaaaPFnPlanOkx3
namespace Go.Proofs.Ytgbdnobhdpmjaaa.Pure
open Go.RowKit Go.Proofs.Ytgbdnobhdpmjaaa.PFnPlanOk Go.Proofs.YtgbdnobhdpmjaaaW.PrintWords Go.Proofs.YtgbdnobhdpmjaaaW.PrintLast
set_option linter.unusedSimpArgs false

/-- A function of the rounds answers r from some round on. -/
def Ev {α : Type} (f : Nat → Option α) (r : α) : Prop := ∃ K, ∀ k, K ≤ k → f k = some r

theorem Ev.bind {α β : Type} {f : Nat → Option α} {a : α} {g : Nat → α → Option β} {b : β} (h : Ev f a) (h2 : Ev (fun k => g k a) b) : Ev (fun k => (f k).bind (g k)) b := by
  obtain ⟨K, h⟩ := h
  obtain ⟨L, h2⟩ := h2
  refine ⟨max K L, fun k hk => ?_⟩
  show (f k).bind (g k) = some b
  rw [h k (by omega)]
  exact h2 k (by omega)

theorem Ev.pure {α : Type} (a : α) : Ev (fun _ => some a) a := ⟨0, fun _ _ => rfl⟩

theorem Ev.succ {α : Type} {f : Nat → Option α} {a : α} (h : Ev (fun k => f (k + 1)) a) : Ev f a := by
  obtain ⟨K, h⟩ := h
  refine ⟨K + 1, fun k hk => ?_⟩
  obtain ⟨j, rfl⟩ : ∃ j, k = j + 1 := ⟨k - 1, by omega⟩
  exact h j (by omega)

theorem Ev.of {α : Type} {f g : Nat → Option α} {a : α} (h : Ev f a) (e : ∀ k, g k = f k) : Ev g a := by
  obtain ⟨K, h⟩ := h
  exact ⟨K, fun k hk => by rw [e]; exact h k hk⟩

theorem wsmall {n : Int} (h0 : 0 ≤ n) (h1 : n < 9223372036854775808) : wrap64 n = n := by unfold wrap64; omega

/-- A draw answers, and moves on by one. -/
theorem pick_ev (s : List Int) (p n : Int) (hn : 1 ≤ n) (h0 : 0 ≤ p) (h1 : p ≤ 1000000) (hs : s.length ≤ 2000) :
    ∃ v, Ev (fun k => spec_l6Rd_pick.f k s p n) (v, p + 1) := by
  have e1 : wrap64 (p + 1) = p + 1 := wsmall (by omega) (by omega)
  have e2 : wrap64 (p + 1 - 1) = p := by rw [wsmall (by omega) (by omega)]; omega
  have e3 : wrap64 (p * 7) = p * 7 := wsmall (by omega) (by omega)
  have e4 : wrap64 (p * 7 + 3) = p * 7 + 3 := wsmall (by omega) (by omega)
  suffices H : ∃ v, spec_l6Rd_pick.f 1 s p n = some (v, p + 1) by
    obtain ⟨v, H⟩ := H
    refine ⟨v, Ev.succ ⟨0, fun k _ => ?_⟩⟩
    exact H
  simp only [spec_l6Rd_pick.f, spec_l6Rd_pick.j0]
  by_cases hz : s.length = 0
  · rw [if_neg (by omega), if_pos (by simp; exact List.eq_nil_of_length_eq_zero hz), e1]
    exact ⟨_, rfl⟩
  · have hb : ((s.length : Int) == 0) = false := beq_eq_false_iff_ne.2 (by omega)
    have hn0 : n ≠ 0 := by omega
    have hz2 : ¬ (s.length : Int) = 0 := by omega
    have q0 := Int.tmod_nonneg (s.length : Int) h0
    have q1 := Int.tmod_lt_of_pos p (show 0 < (s.length : Int) by omega)
    have q2 := Int.tmod_nonneg (s.length : Int) (show 0 ≤ p * 7 + 3 by omega)
    have q3 := Int.tmod_lt_of_pos (p * 7 + 3) (show 0 < (s.length : Int) by omega)
    by_cases hl : p < (s.length : Int)
    · rw [if_neg (by omega), hb, if_neg (by simp), e1, e2, if_pos hl, if_pos h0, if_neg hn0]
      exact ⟨_, rfl⟩
    · rw [if_neg (by omega), hb, if_neg (by simp), e1, e2, e3, e4, if_neg hl, if_neg hz2, if_pos q0, if_pos q1, if_pos q2, if_pos q3, if_neg hn0]
      exact ⟨_, rfl⟩

/-- A plan is drawn at this depth from each place on, with at most c draws. -/
def Dr (d c : Int) : Prop := ∀ (s : List Int) (p : Int), 0 ≤ p → p + c ≤ 1000000 → s.length ≤ 2000 →
  ∃ a b l p', 0 ≤ p' ∧ p' ≤ p + c ∧ Ev (fun k => spec_l71Plan.f k s p d) (a, b, l, p')

/-- The arm of a leaf. -/
theorem leaf_ev (s : List Int) (p d : Int) (h0 : 0 ≤ p) (h1 : p ≤ 1000000) (hs : s.length ≤ 2000) :
    ∃ b, Ev (fun k => spec_l71Plan.j0 k d true s p) (1, b, [], p + 1) := by
  obtain ⟨v, hv⟩ := pick_ev s p 2 (by omega) h0 h1 hs
  refine ⟨v, Ev.succ ?_⟩
  refine Ev.of (f := fun k => (spec_l6Rd_pick.f k s p 2).bind fun bt => some (1, bt.1, ([] : List S25), bt.2)) ?_ (fun k => by rw [spec_l71Plan.j0]; rfl)
  exact Ev.bind hv (Ev.pure _)

theorem Dr.one : Dr 1 3 := by
  intro s p h0 h1 hs
  obtain ⟨b, hb⟩ := leaf_ev s p 1 h0 (by omega) hs
  refine ⟨1, b, [], p + 1, by omega, by omega, Ev.succ ?_⟩
  refine Ev.of hb (fun k => ?_)
  rw [spec_l71Plan.f, if_pos (by omega)]

theorem Dr.step {d c : Int} (hd : 1 ≤ d) (hd2 : d < 100) (hc : 0 ≤ c) (ih : Dr d c) : Dr (d + 1) (2 * c + 3) := by
  intro s p h0 h1 hs
  have ew : wrap64 (d + 1 - 1) = d := by rw [wsmall (by omega) (by omega)]; omega
  obtain ⟨v, hv⟩ := pick_ev s p 6 (by omega) h0 (by omega) hs
  by_cases hv0 : v = 0
  · obtain ⟨b, hb⟩ := leaf_ev s (p + 1) (d + 1) (by omega) (by omega) hs
    refine ⟨1, b, [], p + 1 + 1, by omega, by omega, Ev.succ ?_⟩
    refine Ev.of (f := fun k => (spec_l6Rd_pick.f k s p 6).bind fun bt => spec_l71Plan.j0 k (d + 1) (bt.1 == 0) s bt.2) ?_ (fun k => by rw [spec_l71Plan.f, if_neg (by omega)])
    refine Ev.bind hv ?_
    simp only [hv0]
    exact hb
  · have hf : (v == 0) = false := by simp [hv0]
    obtain ⟨u, hu⟩ := pick_ev s (p + 1) 6 (by omega) (by omega) (by omega) hs
    suffices H : ∃ a b l p', 0 ≤ p' ∧ p' ≤ p + (2 * c + 3) ∧ Ev (fun k => spec_l71Plan.j0 k (d + 1) false s (p + 1)) (a, b, l, p') by
      obtain ⟨a, b, l, p', g0, g1, H⟩ := H
      refine ⟨a, b, l, p', g0, g1, Ev.succ ?_⟩
      refine Ev.of (f := fun k => (spec_l6Rd_pick.f k s p 6).bind fun bt => spec_l71Plan.j0 k (d + 1) (bt.1 == 0) s bt.2) ?_ (fun k => by rw [spec_l71Plan.f, if_neg (by omega)])
      refine Ev.bind hv ?_
      simp only [hf]
      exact H
    by_cases c0 : u = 0
    · obtain ⟨x, hx⟩ := pick_ev s (p + 1 + 1) 7 (by omega) (by omega) (by omega) hs
      obtain ⟨a, b, l, p', g0, g1, hp⟩ := ih s (p + 1 + 1 + 1) (by omega) (by omega) hs
      refine ⟨2, wrap64 (1 + x), [⟨a, b, l⟩], p', by omega, by omega, Ev.succ ?_⟩
      simp only [spec_l71Plan.j0, Bool.false_eq_true, if_false]
      refine Ev.bind hu ?_
      simp only [c0, if_true]
      refine Ev.bind hx ?_
      simp only [ew]
      exact Ev.bind hp (Ev.pure _)
    by_cases c1 : u = 1
    · obtain ⟨a, b, l, p', g0, g1, hp⟩ := ih s (p + 1 + 1) (by omega) (by omega) hs
      obtain ⟨a2, b2, l2, p2, g2, g3, hp2⟩ := ih s p' (by omega) (by omega) hs
      refine ⟨3, 0, [⟨a, b, l⟩, ⟨a2, b2, l2⟩], p2, by omega, by omega, Ev.succ ?_⟩
      simp only [spec_l71Plan.j0, Bool.false_eq_true, if_false]
      refine Ev.bind hu ?_
      simp only [c0, c1, if_true, if_false, ew]
      refine Ev.bind hp ?_
      exact Ev.bind hp2 (Ev.pure _)
    by_cases c2 : u = 2
    · obtain ⟨a, b, l, p', g0, g1, hp⟩ := ih s (p + 1 + 1) (by omega) (by omega) hs
      refine ⟨4, 0, [⟨a, b, l⟩], p', by omega, by omega, Ev.succ ?_⟩
      simp only [spec_l71Plan.j0, Bool.false_eq_true, if_false]
      refine Ev.bind hu ?_
      simp only [c0, c1, c2, if_true, if_false, ew]
      exact Ev.bind hp (Ev.pure _)
    by_cases c3 : u = 3
    · obtain ⟨a, b, l, p', g0, g1, hp⟩ := ih s (p + 1 + 1) (by omega) (by omega) hs
      obtain ⟨a2, b2, l2, p2, g2, g3, hp2⟩ := ih s p' (by omega) (by omega) hs
      refine ⟨5, 0, [⟨a, b, l⟩, ⟨a2, b2, l2⟩], p2, by omega, by omega, Ev.succ ?_⟩
      simp only [spec_l71Plan.j0, Bool.false_eq_true, if_false]
      refine Ev.bind hu ?_
      simp only [c0, c1, c2, c3, if_true, if_false, ew]
      refine Ev.bind hp ?_
      exact Ev.bind hp2 (Ev.pure _)
    · obtain ⟨x, hx⟩ := pick_ev s (p + 1 + 1) 3 (by omega) (by omega) (by omega) hs
      obtain ⟨a, b, l, p', g0, g1, hp⟩ := ih s (p + 1 + 1 + 1) (by omega) (by omega) hs
      refine ⟨6, wrap64 (1 + x), [⟨a, b, l⟩], p', by omega, by omega, Ev.succ ?_⟩
      simp only [spec_l71Plan.j0, Bool.false_eq_true, if_false]
      refine Ev.bind hu ?_
      simp only [c0, c1, c2, c3, if_false]
      refine Ev.bind hx ?_
      simp only [ew]
      exact Ev.bind hp (Ev.pure _)

theorem bent_ev (s : List Int) (hs : s.length ≤ 2000) :
    ∃ a b l p', Ev (fun k => spec_l71Bent.f k s 0) (a, b, l, p') := by
  have D2 := Dr.step (by omega) (by omega) (by omega) Dr.one
  have D3 := Dr.step (by omega) (by omega) (by omega) D2
  have D4 := Dr.step (by omega) (by omega) (by omega) D3
  obtain ⟨a, b, l, p', g0, g1, hp⟩ := D4 s 0 (by omega) (by omega) hs
  obtain ⟨v, hv⟩ := pick_ev s p' 24 (by omega) g0 (by omega) hs
  obtain ⟨x, hx⟩ := pick_ev s (p' + 1) 9 (by omega) (by omega) (by omega) hs
  suffices H : ∃ a' b' l' p2, Ev (fun k => if v = 0 then ((spec_l6Rd_pick.f k s (p' + 1) 9).bind fun bt182 => (some (wrap64 (bt182.1 - 1), b, l, bt182.2))) else (if v = 1 then (some (a, wrap64 (b + 5), l, p' + 1)) else (if v = 2 then (some (4, 0, (([(⟨a, b, l⟩ : S25), (⟨a, b, l⟩ : S25)] : List (S25))), p' + 1)) else (if v = 3 then (some (4, 0, (([(⟨4, 0, (([(⟨a, b, l⟩ : S25)] : List (S25)))⟩ : S25)] : List (S25))), p' + 1)) else (some (a, b, l, p' + 1)))))) (a', b', l', p2) by
    obtain ⟨a', b', l', p2, H⟩ := H
    refine ⟨a', b', l', p2, ?_⟩
    simp only [spec_l71Bent.f]
    refine Ev.bind hp ?_
    refine Ev.bind hv ?_
    exact H
  by_cases c0 : v = 0
  · simp only [c0, if_true]
    exact ⟨_, _, _, _, Ev.bind hx (Ev.pure _)⟩
  by_cases c1 : v = 1
  · simp only [c0, c1, if_true, if_false]
    exact ⟨_, _, _, _, Ev.pure _⟩
  by_cases c2 : v = 2
  · simp only [c0, c1, c2, if_true, if_false]
    exact ⟨_, _, _, _, Ev.pure _⟩
  by_cases c3 : v = 3
  · simp only [c0, c1, c2, c3, if_true, if_false]
    exact ⟨_, _, _, _, Ev.pure _⟩
  simp only [c0, c1, c2, c3, if_false]
  exact ⟨_, _, _, _, Ev.pure _⟩

theorem draw_ev (l0 : List Int) : ∃ a b l, Ev (fun k => spec_DrawPlanOk.f k l0) (a, b, l) := by
  suffices H : ∃ s, s.length ≤ 2000 ∧ spec_l6Open.f l0 = some (s, 0) by
    obtain ⟨s, hs, e⟩ := H
    obtain ⟨a, b, l, p', H⟩ := bent_ev s hs
    refine ⟨a, b, l, ?_⟩
    simp only [spec_DrawPlanOk.f, e, Option.bind_some]
    exact Ev.bind H (Ev.pure _)
  unfold spec_l6Open.f
  by_cases h : (l0.length : Int) > 2000
  · exact ⟨l0.take 2000, by simp; omega, by rw [if_pos h, if_pos (by omega)]⟩
  · exact ⟨l0, by omega, by rw [if_neg h]⟩

/-- How many inputs a kind has, and the bounds of its number. -/
def kids3 (a : Int) : Int × Int × Int :=
  if a = 1 then (0, 0, 1) else if a = 2 then (1, 1, 7) else if a = 3 then (2, 0, 0) else if a = 5 then (2, 0, 0) else if a = 4 then (1, 0, 0) else if a = 6 then (1, 1, 3) else (-1, 0, 0)

theorem kids_impl (a : Int) : Ev (fun k => impl_kidsOf.f k a) (kids3 a) := by
  refine Ev.succ ⟨0, fun k _ => ?_⟩
  simp only [impl_kidsOf.f, impl_kidsOf.j0, kids3]
  by_cases h1 : a = 1 <;> by_cases h2 : a = 2 <;> by_cases h3 : a = 3 <;> by_cases h5 : a = 5 <;> by_cases h4 : a = 4 <;> by_cases h6 : a = 6 <;> simp [*]

theorem kids_spec (a : Int) : Ev (fun k => spec_l21Kids.f k a) (kids3 a) := by
  refine Ev.succ ⟨0, fun k _ => ?_⟩
  simp only [spec_l21Kids.f, spec_l21Kids.j0, kids3]
  by_cases h1 : a = 1 <;> by_cases h2 : a = 2 <;> by_cases h3 : a = 3 <;> by_cases h5 : a = 5 <;> by_cases h4 : a = 4 <;> by_cases h6 : a = 6 <;> simp [*]

/-- A plan is ok at a depth. -/
def pok : Nat → Int → Int → List S25 → Bool
  | 0, _, _, _ => false
  | d + 1, a, b, l => decide ((l.length : Int) = (kids3 a).1 ∧ (kids3 a).2.1 ≤ b ∧ b ≤ (kids3 a).2.2) && l.all fun x => pok d x.f0 x.f1 x.f2

theorem pok_no {d : Nat} {a b : Int} {l : List S25} (h : ¬ ((l.length : Int) = (kids3 a).1 ∧ (kids3 a).2.1 ≤ b ∧ b ≤ (kids3 a).2.2)) : pok (d + 1) a b l = false := by
  rw [pok, decide_eq_false h, Bool.false_and]
theorem pok_yes {d : Nat} {a b : Int} {l : List S25} (h : (l.length : Int) = (kids3 a).1 ∧ (kids3 a).2.1 ≤ b ∧ b ≤ (kids3 a).2.2) : pok (d + 1) a b l = l.all fun x => pok d x.f0 x.f1 x.f2 := by
  rw [pok, decide_eq_true h, Bool.true_and]

theorem pok_more : ∀ d a b l, pok d a b l = true → pok (d + 1) a b l = true := by
  intro d
  induction d with
  | zero => intro a b l h; simp [pok] at h
  | succ d ih =>
    intro a b l h
    rw [pok] at h ⊢
    simp only [Bool.and_eq_true, List.all_eq_true] at h ⊢
    exact ⟨h.1, fun x hx => ih _ _ _ (h.2 x hx)⟩

theorem rd_drop (l : List S25) (i : Nat) (h : i < l.length) : l.drop i = rd_T25 l i :: l.drop (i + 1) := by
  rw [List.drop_eq_getElem_cons h]
  simp [rd_T25, List.getD, h]

theorem iloop (d : Nat) (hd : d ≤ 4) (ih : ∀ a b l, Ev (fun k => impl_planOk.f k a b l d) (pok d a b l)) (l : List S25) (hl : l.length ≤ 2) :
    ∀ n i, i + n = l.length → Ev (fun k => impl_planOk.l0 k ((d + 1 : Nat) : Int) l (l.length : Int) i) ((l.drop i).all fun x => pok d x.f0 x.f1 x.f2) := by
  have ew : wrap64 (((d + 1 : Nat) : Int) - 1) = d := by rw [wsmall (by omega) (by omega)]; omega
  intro n
  induction n with
  | zero =>
    intro i hi
    refine Ev.succ ?_
    simp only [impl_planOk.l0]
    rw [List.drop_eq_nil_of_le (by omega)]
    refine Ev.of (Ev.pure _) (fun k => by rw [if_neg (by omega)]; rfl)
  | succ n ihn =>
    intro i hi
    refine Ev.succ ?_
    simp only [impl_planOk.l0]
    have H := ihn (i + 1) (by omega)
    have ei : wrap64 ((i : Int) + 1) = ((i + 1 : Nat) : Int) := by rw [wsmall (by omega) (by omega)]; omega
    refine Ev.of (f := fun k => (impl_planOk.f k (rd_T25 l i).f0 (rd_T25 l i).f1 (rd_T25 l i).f2 d).bind fun t => if t = true then impl_planOk.l0 k ((d + 1 : Nat) : Int) l l.length ((i + 1 : Nat) : Int) else some false) ?_ (fun k => by rw [if_pos (by omega), if_pos (by omega), if_pos (by omega), ew, ei])
    refine Ev.bind (ih _ _ _) ?_
    rw [rd_drop l i (by omega), List.all_cons]
    cases hq : pok d (rd_T25 l i).f0 (rd_T25 l i).f1 (rd_T25 l i).f2
    · exact Ev.of (Ev.pure _) (fun k => by simp)
    · simpa using H

theorem kids_le (a : Int) : (kids3 a).1 ≤ 2 := by
  unfold kids3; repeat' split
  all_goals decide

theorem iok : ∀ d : Nat, d ≤ 4 → ∀ a b l, Ev (fun k => impl_planOk.f k a b l d) (pok d a b l) := by
  intro d
  induction d with
  | zero =>
    intro _ a b l
    refine Ev.succ ?_
    simp only [impl_planOk.f]
    refine Ev.bind (kids_impl a) ?_
    refine Ev.succ (Ev.of (Ev.pure _) (fun k => by rw [if_pos (by omega)]; simp [impl_planOk.j0, pok]))
  | succ d ih =>
    intro hd a b l
    refine Ev.succ ?_
    simp only [impl_planOk.f]
    refine Ev.bind (kids_impl a) ?_
    have hle := kids_le a
    by_cases hn : (kids3 a).1 < 0
    · rw [pok_no (by omega)]
      exact Ev.succ (Ev.of (Ev.pure _) (fun k => by rw [if_neg (by omega), if_pos hn]; simp [impl_planOk.j0]))
    by_cases hlen : (l.length : Int) = (kids3 a).1
    · by_cases hlo : b < (kids3 a).2.1
      · rw [pok_no (by omega)]
        exact Ev.succ (Ev.of (Ev.pure _) (fun k => by rw [if_neg (by omega), if_neg hn, if_pos hlen, if_pos hlo]; simp [impl_planOk.j0]))
      · by_cases hhi : b > (kids3 a).2.2
        · rw [pok_no (by omega)]
          exact Ev.succ (Ev.of (Ev.pure _) (fun k => by rw [if_neg (by omega), if_neg hn, if_pos hlen, if_neg hlo]; simp [impl_planOk.j0, hhi]))
        · rw [pok_yes (by omega)]
          have H := iloop d (by omega) (ih (by omega)) l (by omega) l.length 0 (by omega)
          refine Ev.succ (Ev.of H (fun k => by rw [if_neg (by omega), if_neg hn, if_pos hlen, if_neg hlo]; simp [impl_planOk.j0, hhi]))
    · rw [pok_no (by omega)]
      exact Ev.succ (Ev.of (Ev.pure _) (fun k => by rw [if_neg (by omega), if_neg hn, if_neg hlen]; simp [impl_planOk.j0]))

theorem sloop (d : Nat) (hd : d ≤ 4) (ih : ∀ a b l, Ev (fun k => spec_l21Ok.f k a b l d) (pok d a b l)) (a b : Int) (l : List S25) (hl : l.length ≤ 2) :
    ∀ n i, i + n = l.length → Ev (fun k => spec_l21Ok.l0 k ((d + 1 : Nat) : Int) i a b l) ((l.drop i).all fun x => pok d x.f0 x.f1 x.f2) := by
  have ew : wrap64 (((d + 1 : Nat) : Int) - 1) = d := by rw [wsmall (by omega) (by omega)]; omega
  intro n
  induction n with
  | zero =>
    intro i hi
    refine Ev.succ ?_
    simp only [spec_l21Ok.l0]
    rw [List.drop_eq_nil_of_le (by omega)]
    refine Ev.of (Ev.pure _) (fun k => by rw [if_neg (by omega)]; rfl)
  | succ n ihn =>
    intro i hi
    refine Ev.succ ?_
    simp only [spec_l21Ok.l0]
    have H := ihn (i + 1) (by omega)
    have ei : wrap64 ((i : Int) + 1) = ((i + 1 : Nat) : Int) := by rw [wsmall (by omega) (by omega)]; omega
    refine Ev.of (f := fun k => (spec_l21Ok.f k (rd_T25 l i).f0 (rd_T25 l i).f1 (rd_T25 l i).f2 d).bind fun t => if t = true then spec_l21Ok.l0 k ((d + 1 : Nat) : Int) ((i + 1 : Nat) : Int) a b l else some false) ?_ (fun k => by rw [if_pos (by omega), if_pos (by omega), ew, ei])
    refine Ev.bind (ih _ _ _) ?_
    rw [rd_drop l i (by omega), List.all_cons]
    cases hq : pok d (rd_T25 l i).f0 (rd_T25 l i).f1 (rd_T25 l i).f2
    · exact Ev.of (Ev.pure _) (fun k => by simp)
    · simpa using H

theorem sok : ∀ d : Nat, d ≤ 4 → ∀ a b l, Ev (fun k => spec_l21Ok.f k a b l d) (pok d a b l) := by
  intro d
  induction d with
  | zero =>
    intro _ a b l
    refine Ev.succ ?_
    simp only [spec_l21Ok.f]
    refine Ev.bind (kids_spec a) ?_
    refine Ev.succ (Ev.of (Ev.pure _) (fun k => by rw [if_pos (by omega)]; simp [spec_l21Ok.j0, pok]))
  | succ d ih =>
    intro hd a b l
    refine Ev.succ ?_
    simp only [spec_l21Ok.f]
    refine Ev.bind (kids_spec a) ?_
    have hle := kids_le a
    by_cases hlen : (l.length : Int) = (kids3 a).1
    · by_cases hlo : (kids3 a).2.1 ≤ b
      · by_cases hhi : b ≤ (kids3 a).2.2
        · rw [pok_yes (by omega)]
          have H := sloop d (by omega) (ih (by omega)) a b l (by omega) l.length 0 (by omega)
          refine Ev.succ (Ev.of H (fun k => by rw [if_neg (by omega), if_pos hlen, spec_l6In.f, if_pos (by omega), decide_eq_true hhi]; simp [spec_l21Ok.j0]))
        · rw [pok_no (by omega)]
          exact Ev.succ (Ev.of (Ev.pure _) (fun k => by rw [if_neg (by omega), if_pos hlen, spec_l6In.f, if_pos (by omega), decide_eq_false hhi]; simp [spec_l21Ok.j0]))
      · rw [pok_no (by omega)]
        exact Ev.succ (Ev.of (Ev.pure _) (fun k => by rw [if_neg (by omega), if_pos hlen, spec_l6In.f, if_neg (by omega)]; simp [spec_l21Ok.j0]))
    · rw [pok_no (by omega)]
      exact Ev.succ (Ev.of (Ev.pure _) (fun k => by rw [if_neg (by omega), if_neg hlen]; simp [spec_l21Ok.j0]))

theorem iOk (a b : Int) (l : List S25) : Ev (fun k => impl_PlanOk.f k a b l) (pok 4 a b l) := by
  simp only [impl_PlanOk.f]
  exact Ev.bind (iok 4 (by omega) a b l) (Ev.pure _)

theorem sOk (a b : Int) (l : List S25) : Ev (fun k => spec_PlanOk.f k a b l) (pok 4 a b l) := by
  simp only [spec_PlanOk.f]
  exact Ev.bind (sok 4 (by omega) a b l) (Ev.pure _)

theorem lloop (a b : Int) (l : List S25) (hl : l.length ≤ 2) (hok : ∀ x ∈ l, pok 4 x.f0 x.f1 x.f2 = true) :
    ∀ n i, i + n = l.length → Ev (fun k => laws_FnPlanOk.l0 k i a b l) true := by
  intro n
  induction n with
  | zero =>
    intro i hi
    refine Ev.succ ?_
    simp only [laws_FnPlanOk.l0]
    refine Ev.of (Ev.pure _) (fun k => by rw [if_neg (by omega)])
  | succ n ihn =>
    intro i hi
    refine Ev.succ ?_
    simp only [laws_FnPlanOk.l0]
    have H := ihn (i + 1) (by omega)
    have ei : wrap64 ((i : Int) + 1) = ((i + 1 : Nat) : Int) := by rw [wsmall (by omega) (by omega)]; omega
    refine Ev.of (f := fun k => (impl_PlanOk.f k (rd_T25 l i).f0 (rd_T25 l i).f1 (rd_T25 l i).f2).bind fun t => if t = true then laws_FnPlanOk.l0 k ((i + 1 : Nat) : Int) a b l else some false) ?_ (fun k => by rw [if_pos (by omega), if_pos (by omega), ei])
    refine Ev.bind (iOk _ _ _) ?_
    rw [hok _ (by have := rd_drop l i (by omega); exact List.mem_of_mem_drop (i := i) (by rw [this]; exact List.mem_cons_self))]
    simpa using H

/-- For each row of bytes that the hypotheses let in, the law answers true with enough rounds. -/
theorem FnPlanOk : laws_FnPlanOk.Pure := by
  intro l0 _ _ _
  suffices H : Ev (fun k => laws_FnPlanOk.f k l0) true by
    obtain ⟨K, H⟩ := H
    exact ⟨K, H K (Nat.le_refl _)⟩
  simp only [laws_FnPlanOk.f]
  by_cases hb : (l0.length : Int) > 1048576
  · exact Ev.of (Ev.pure _) (fun k => by rw [if_pos hb])
  obtain ⟨a, b, l, hD⟩ := draw_ev l0
  simp only [if_neg hb]
  refine Ev.bind hD ?_
  refine Ev.bind (iOk a b l) ?_
  refine Ev.bind (sOk a b l) ?_
  cases hq : pok 4 a b l
  · refine Ev.succ ?_
    simp only [laws_FnPlanOk.j0, Bool.not_false, bne_self_eq_false, Bool.false_eq_true, if_false, if_true]
    have := Ev.bind (g := fun _ t => some (false == t)) (sOk a b l) (b := true) (by rw [hq]; exact Ev.pure _)
    exact this
  · refine Ev.succ ?_
    simp only [laws_FnPlanOk.j0, Bool.not_true, bne_self_eq_false, Bool.false_eq_true, if_false]
    rw [pok] at hq
    simp only [Bool.and_eq_true, decide_eq_true_eq, List.all_eq_true] at hq
    have := kids_le a
    exact lloop a b l (by omega) (fun x hx => pok_more 3 _ _ _ (hq.2 x hx)) l.length 0 (by omega)

end Go.Proofs.Ytgbdnobhdpmjaaa.Pure
