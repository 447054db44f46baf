/- Conditions: none. -/
import Derived.Test.YtkdendlgaaimbaaYCPl
import Derived.Test.YtkdendlgaaimbaaYLPl
import Derived.Test.YtkdendlgaaimbaaYLFt
import Derived.Test.YtkdendlgaaimbaaYLSb
import Derived.Test.YtkdendlgaaimbaaYLDr
namespace Go.Proofs.Ytkdendlgaaimbaa.X
open Go.RowKit
set_option linter.unusedVariables false
set_option linter.unusedSimpArgs false
def inR (a : Int) : Prop := -9223372036854775808 ≤ a ∧ a < 9223372036854775808
theorem inR_wrap (a : Int) : inR (wrap64 a) := by unfold inR wrap64; omega
theorem put_inR {r : Rw} (hr : inR r.f3) : ∀ {s : List Rw}, (∀ x ∈ s, inR x.f3) → ∀ x ∈ put r s, inR x.f3
 | [], _, x, hx => by rw [put, List.mem_singleton] at hx; rw [hx]; exact hr
 | y :: s, hs, x, hx => by
  rw [put] at hx
  split at hx
  ·rcases List.mem_cons.1 hx with rfl | hx
   ·exact hr
   ·exact hs x hx
  ·split at hx
   ·rcases List.mem_cons.1 hx with rfl | hx
    ·exact inR_wrap _
    ·exact hs x (List.mem_cons_of_mem _ hx)
   ·rcases List.mem_cons.1 hx with rfl | hx
    ·exact hs _ List.mem_cons_self
    ·exact put_inR hr (fun z hz => hs z (List.mem_cons_of_mem _ hz)) x hx
theorem putAll_inR : ∀ {l s : List Rw}, (∀ x ∈ l, inR x.f3) → (∀ x ∈ s, inR x.f3) → ∀ x ∈ putAll s l, inR x.f3
 | [], s, _, hs => hs
 | r :: l, s, hl, hs => fun x hx => putAll_inR (l := l) (s := put r s) (fun y hy => hl y (List.mem_cons_of_mem _ hy)) (put_inR (hl r List.mem_cons_self) hs) x hx
theorem sum_inR {l : List Rw} (h : ∀ x ∈ l, inR x.f3) : ∀ x ∈ sum l, inR x.f3 := fun x hx =>
 putAll_inR h (fun y hy => by cases hy) x (List.mem_filter.1 hx).1
end Go.Proofs.Ytkdendlgaaimbaa.X
namespace Go.Proofs.Ytkdendlgaaimbaa.X
open Go.RowKit
set_option linter.unusedVariables false
set_option linter.unusedSimpArgs false
end Go.Proofs.Ytkdendlgaaimbaa.X
namespace Go.Proofs.Ytkdendlgaaimbaa.X
open Go.RowKit Go.Proofs.YtkdendlgaaimbaaW.PrintWords
set_option linter.unusedVariables false
set_option linter.unusedSimpArgs false
end Go.Proofs.Ytkdendlgaaimbaa.X
namespace Go.Proofs.Ytkdendlgaaimbaa.X
open Go.RowKit
set_option linter.unusedVariables false
set_option linter.unusedSimpArgs false
theorem below_trans {s t u : Tm} (h : below s t = true) (g : below t u = true) : below s u = true := by
 simp only [below, Bool.and_eq_true, decide_eq_true_eq] at h g ⊢; omega
theorem below_refl (t : Tm) : below t t = true := by simp [below]
theorem tmax_le (a b : Int) : a ≤ tmax a b ∧ b ≤ tmax a b := by unfold tmax; split <;> omega
theorem below_joinL {c d : Tm} (hc : tOk c = true) (hd : tOk d = true) : below c (tJoin c d) = true ∧ below d (tJoin c d) = true := by
 have e : tJoin c d = ⟨tmax c.f0 d.f0, tmax c.f1 d.f1⟩ := by unfold tJoin; rw [hc, hd]; rfl
 rw [e]
 simp only [below, Bool.and_eq_true, decide_eq_true_eq]
 exact ⟨⟨(tmax_le _ _).1, (tmax_le _ _).1⟩, ⟨(tmax_le _ _).2, (tmax_le _ _).2⟩⟩
end Go.Proofs.Ytkdendlgaaimbaa.X
namespace Go.Proofs.Ytkdendlgaaimbaa.X
open Go.RowKit
set_option linter.unusedVariables false
set_option linter.unusedSimpArgs false
theorem batchOk_rows {l : List Rw} (h : batchOk l = true) : rowsOk l = true := by unfold batchOk at h; rw [Bool.and_eq_true] at h; exact h.2
theorem tmin_or (a b : Int) : tmin a b ≤ a ∧ tmin a b ≤ b ∧ (tmin a b = a ∨ tmin a b = b) := by unfold tmin; split <;> omega
theorem tMeet_ok {s t : Tm} (hs : tOk s = true) (ht : tOk t = true) : tMeet s t = ⟨tmin s.f0 t.f0, tmin s.f1 t.f1⟩ := by unfold tMeet; rw [hs, ht]; rfl
theorem tMeet_in {s t : Tm} (hs : tOk s = true) (ht : tOk t = true) : tOk (tMeet s t) = true := by
 rw [tMeet_ok hs ht]
 simp only [tOk, Bool.and_eq_true, decide_eq_true_eq] at hs ht ⊢
 have h0 := tmin_or s.f0 t.f0
 have h1 := tmin_or s.f1 t.f1
 omega
theorem below_meet {c d t : Tm} (hc : tOk c = true) (hd : tOk d = true) : below t (tMeet c d) = (below t c && below t d) := by
 rw [tMeet_ok hc hd, Bool.eq_iff_iff]
 simp only [below, Bool.and_eq_true, decide_eq_true_eq]
 have h0 := tmin_or c.f0 d.f0
 have h1 := tmin_or c.f1 d.f1
 omega
theorem meet_below {c d : Tm} (hc : tOk c = true) (hd : tOk d = true) : below (tMeet c d) c = true ∧ below (tMeet c d) d = true := by
 rw [tMeet_ok hc hd]
 simp only [below, Bool.and_eq_true, decide_eq_true_eq]
 have h0 := tmin_or c.f0 d.f0
 have h1 := tmin_or c.f1 d.f1
 omega
theorem moveGo_in {t : Tm} (ht : tOk t = true) : ∀ (l : List Tm) (o : Tm), tOk o = true → (∀ s ∈ l, tOk s = true) → below t o = true →
  tOk (moveGo t o l) = true ∧ below t (moveGo t o l) = true ∧ below (moveGo t o l) o = true ∧ ∀ s ∈ l, below (moveGo t o l) (tJoin s t) = true
 | [], o, ho, _, hb => ⟨ho, hb, below_refl _, fun s hs => by cases hs⟩
 | s :: l, o, ho, hl, hb => by
  have hs := hl s List.mem_cons_self
  have hj := tJoin_okk hs ht
  have hbj := (below_joinL hs ht).2
  obtain ⟨i1, i2, i3, i4⟩ := moveGo_in ht l (tMeet o (tJoin s t)) (tMeet_in ho hj) (fun u hu => hl u (List.mem_cons_of_mem _ hu)) (by rw [below_meet ho hj, hb, hbj]; rfl)
  obtain ⟨m1, m2⟩ := meet_below ho hj
  rw [moveGo]
  refine ⟨i1, i2, below_trans i3 m1, fun u hu => ?_⟩
  rcases List.mem_cons.1 hu with rfl | hu
  ·exact below_trans i3 m2
  ·exact i4 u hu
theorem frontOk_all : ∀ {f : List Tm}, frontOk f = true → ∀ s ∈ f, tOk s = true := fun {f} h => by
 have go : ∀ (l : List Tm) (p : Tm), frontGo p l = true → ∀ s ∈ l, tOk s = true := fun l => by
  induction l with
  | nil => intro p _ s hs; cases hs
  | cons x l ih =>
   intro p hp s hs
   simp only [frontGo, Bool.and_eq_true] at hp
   rcases List.mem_cons.1 hs with rfl | hs
   ·exact hp.1.1
   ·exact ih x hp.2 s hs
 cases f with
 | nil => intro s hs; cases hs
 | cons x f =>
  intro s hs
  simp only [frontOk, Bool.and_eq_true] at h
  rcases List.mem_cons.1 hs with rfl | hs
  ·exact h.1
  ·exact go f x h.2 s hs
theorem moved_ok {f : List Tm} {s : Tm} (hf : ∀ u ∈ f, tOk u = true) (hs : tOk s = true) : tOk (moved f s) = true ∧ below s (moved f s) = true ∧ ∀ u ∈ f, below (moved f s) (tJoin u s) = true := by
 cases f with
 | nil => exact ⟨hs, below_refl _, fun u hu => by cases hu⟩
 | cons u f =>
  have hu := hf u List.mem_cons_self
  obtain ⟨i1, i2, i3, i4⟩ := moveGo_in hs (u :: f) (tJoin u s) (tJoin_okk hu hs) hf (below_joinL hu hs).2
  exact ⟨i1, i2, i4⟩
theorem mass_mv (f : List Tm) (l : List Rw) : mass (l.map (mv f)) = mass l := sg_map _ _ _
end Go.Proofs.Ytkdendlgaaimbaa.X
