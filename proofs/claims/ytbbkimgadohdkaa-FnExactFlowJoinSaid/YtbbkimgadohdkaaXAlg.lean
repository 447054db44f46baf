/- Sums over lists of rows and of items; rows in order are told by their sums. Plain lemmas. Conditions: none. -/
import Derived.Test.YtbbkimgadohdkaaXPGathR
namespace Go.Proofs.Ytbbkimgadohdkaa.X
open Go.RowKit
set_option linter.unusedVariables false
set_option linter.unusedSimpArgs false

/-! a sum over a list -/
def sg {α : Type} (f : α → Int) : List α → Int
  | [] => 0
  | x :: l => f x + sg f l
section
variable {α β : Type}
theorem sg_append (f : α → Int) : ∀ l m : List α, sg f (l ++ m) = sg f l + sg f m
  | [], m => by simp [sg]
  | x :: l, m => by simp only [List.cons_append, sg]; rw [sg_append f l m]; omega
theorem sg_map (f : β → Int) (g : α → β) : ∀ l : List α, sg f (l.map g) = sg (fun x => f (g x)) l
  | [] => rfl
  | x :: l => by simp only [List.map_cons, sg]; rw [sg_map f g l]
theorem sg_flatMap (f : β → Int) (g : α → List β) : ∀ l : List α, sg f (l.flatMap g) = sg (fun x => sg f (g x)) l
  | [] => rfl
  | x :: l => by rw [List.flatMap_cons, sg_append, sg_flatMap f g l]; rfl
theorem sg_filter (f : α → Int) (p : α → Bool) : ∀ l : List α, sg f (l.filter p) = sg (fun x => if p x = true then f x else 0) l
  | [] => rfl
  | x :: l => by
    by_cases h : p x = true
    · rw [List.filter_cons_of_pos h, sg, sg, if_pos h, sg_filter f p l]
    · rw [List.filter_cons_of_neg h, sg, if_neg h, sg_filter f p l]; omega
theorem sg_congr {f g : α → Int} : ∀ {l : List α}, (∀ x ∈ l, f x = g x) → sg f l = sg g l
  | [], _ => rfl
  | x :: l, h => by rw [sg, sg, h x List.mem_cons_self, sg_congr (fun y hy => h y (List.mem_cons_of_mem _ hy))]
theorem sg_zero : ∀ {f : α → Int} {l : List α}, (∀ x ∈ l, f x = 0) → sg f l = 0
  | _, [], _ => rfl
  | f, x :: l, h => by rw [sg, h x List.mem_cons_self, sg_zero (fun y hy => h y (List.mem_cons_of_mem _ hy))]; rfl
theorem sg_add (f g : α → Int) : ∀ l : List α, sg (fun x => f x + g x) l = sg f l + sg g l
  | [] => rfl
  | x :: l => by simp only [sg]; rw [sg_add f g l]; omega
theorem sg_mul (c : Int) (f : α → Int) : ∀ l : List α, sg (fun x => c * f x) l = c * sg f l
  | [] => by simp [sg]
  | x :: l => by simp only [sg]; rw [sg_mul c f l, Int.mul_add]
theorem sg_mul' (c : Int) (f : α → Int) (l : List α) : sg (fun x => f x * c) l = sg f l * c := by
  rw [Int.mul_comm, ← sg_mul]; exact sg_congr fun x _ => Int.mul_comm _ _
theorem sg_neg (f : α → Int) : ∀ l : List α, sg (fun x => - f x) l = - sg f l
  | [] => rfl
  | x :: l => by simp only [sg]; rw [sg_neg f l]; omega
theorem sg_comm (f : α → β → Int) (l : List α) : ∀ m : List β, sg (fun x => sg (f x) m) l = sg (fun y => sg (fun x => f x y) l) m
  | [] => by rw [sg]; exact sg_zero fun _ _ => rfl
  | y :: m => by simp only [sg]; rw [sg_add, sg_comm f l m]
theorem sg_le {f g : α → Int} : ∀ {l : List α}, (∀ x ∈ l, f x ≤ g x) → sg f l ≤ sg g l
  | [], _ => Int.le_refl _
  | x :: l, h => by
    have h1 := h x List.mem_cons_self
    have h2 := sg_le (l := l) (fun y hy => h y (List.mem_cons_of_mem _ hy))
    simp only [sg]; omega
theorem sg_nonneg {f : α → Int} {l : List α} (h : ∀ x ∈ l, 0 ≤ f x) : 0 ≤ sg f l := by
  have := sg_le (f := fun _ => 0) (g := f) (l := l) h
  rw [sg_zero (fun _ _ => rfl)] at this; exact this
theorem sg_mem_le {f : α → Int} : ∀ {l : List α}, (∀ x ∈ l, 0 ≤ f x) → ∀ x ∈ l, f x ≤ sg f l
  | y :: l, h, x, hx => by
    have h0 := h y List.mem_cons_self
    have h1 := sg_nonneg (fun z hz => h z (List.mem_cons_of_mem _ hz))
    rcases List.mem_cons.1 hx with rfl | hx
    · rw [sg]; omega
    · have := sg_mem_le (fun z hz => h z (List.mem_cons_of_mem _ hz)) x hx
      rw [sg]; omega
theorem sg_const (c : Int) : ∀ l : List α, sg (fun _ => c) l = c * l.length
  | [] => by simp [sg]
  | x :: l => by rw [sg, sg_const c l, List.length_cons]; rw [show ((l.length + 1 : Nat) : Int) = (l.length : Int) + 1 by omega, Int.mul_add]; omega
theorem sg_le_len {f : α → Int} {c : Int} {l : List α} (h : ∀ x ∈ l, f x ≤ c) : sg f l ≤ c * l.length := by rw [← sg_const]; exact sg_le h
end
theorem abs_tri (a b : Int) : ((a + b).natAbs : Int) ≤ a.natAbs + b.natAbs := by omega
theorem wrap_abs {a : Int} (h : (a.natAbs : Int) < 9223372036854775808) : wrap64 a = a := by unfold wrap64; omega

/-! rows -/
abbrev Wt := Int → Int → Tm → Int
/-- a row's share -/
def sh (φ : Wt) (r : Rw) : Int := r.f3 * φ r.f0 r.f1 r.f2
def mass (l : List Rw) : Int := sg (fun r => (r.f3.natAbs : Int)) l
theorem mass_nonneg (l : List Rw) : 0 ≤ mass l := sg_nonneg fun _ _ => Int.natCast_nonneg _
theorem mass_append (l m : List Rw) : mass (l ++ m) = mass l + mass m := sg_append _ _ _
theorem mass_mem {l : List Rw} {r : Rw} (h : r ∈ l) : (r.f3.natAbs : Int) ≤ mass l := sg_mem_le (f := fun r : Rw => (r.f3.natAbs : Int)) (fun _ _ => Int.natCast_nonneg _) r h
theorem mass_le {l : List Rw} {c : Int} (h : ∀ r ∈ l, (r.f3.natAbs : Int) ≤ c) : mass l ≤ c * l.length := sg_le_len h
theorem sameR_eq {x r : Rw} (h : sameR x r) : x.f0 = r.f0 ∧ x.f1 = r.f1 ∧ x.f2 = r.f2 := ⟨h.1, h.2.1, Tm.ext' h.2.2.1 h.2.2.2⟩
theorem put_sh (φ : Wt) (r : Rw) (s : List Rw) : (r.f3.natAbs : Int) + mass s < 9223372036854775808 → sg (sh φ) (put r s) = sh φ r + sg (sh φ) s ∧ mass (put r s) ≤ (r.f3.natAbs : Int) + mass s := by
  induction s with
  | nil => intro _; exact ⟨by simp [put, sg], by simp [put, mass, sg]⟩
  | cons x s ih =>
    intro h
    have hm : mass (x :: s) = (x.f3.natAbs : Int) + mass s := rfl
    rw [hm] at h ⊢
    have h0 := mass_nonneg s
    rw [put]
    by_cases h1 : 0 < comp x r
    · rw [if_pos h1]; exact ⟨rfl, Int.le_refl _⟩
    · rw [if_neg h1]
      by_cases h2 : comp x r = 0
      · rw [if_pos h2]
        obtain ⟨e0, e1, e2⟩ := sameR_eq ((compR_zero x r).1 h2)
        have hw : wrap64 (r.f3 + x.f3) = r.f3 + x.f3 := wrap_abs (by omega)
        have ht := abs_tri r.f3 x.f3
        rw [hw]
        refine ⟨?_, ?_⟩
        · simp only [sg, sh, e0, e1, e2, Int.add_mul]; omega
        · show ((r.f3 + x.f3).natAbs : Int) + mass s ≤ _
          omega
      · rw [if_neg h2]
        obtain ⟨i1, i2⟩ := ih (by omega)
        refine ⟨?_, ?_⟩
        · simp only [sg]; rw [i1]; omega
        · show (x.f3.natAbs : Int) + mass (put r s) ≤ _
          omega
theorem putAll_sh (φ : Wt) : ∀ (l s : List Rw), mass s + mass l < 9223372036854775808 → sg (sh φ) (putAll s l) = sg (sh φ) s + sg (sh φ) l ∧ mass (putAll s l) ≤ mass s + mass l
  | [], s, _ => ⟨by simp [putAll, sg], by simp [putAll, mass, sg]⟩
  | r :: l, s, h => by
    have hm : mass (r :: l) = (r.f3.natAbs : Int) + mass l := rfl
    rw [hm] at h ⊢
    have h0 := mass_nonneg l
    obtain ⟨i1, i2⟩ := put_sh φ r s (by omega)
    obtain ⟨j1, j2⟩ := putAll_sh φ l (put r s) (by omega)
    rw [putAll, j1, i1]
    exact ⟨by simp only [sg]; omega, by omega⟩
theorem nonZero_sh (φ : Wt) (l : List Rw) : sg (sh φ) (nonZero l) = sg (sh φ) l ∧ mass (nonZero l) = mass l := by
  unfold nonZero mass
  rw [sg_filter, sg_filter]
  exact ⟨sg_congr fun x _ => by by_cases h : x.f3 = 0 <;> simp [h, sh], sg_congr fun x _ => by by_cases h : x.f3 = 0 <;> simp [h]⟩
/-- a sum tells what its rows tell -/
theorem sum_sh {l : List Rw} (h : mass l < 9223372036854775808) (φ : Wt) : sg (sh φ) (sum l) = sg (sh φ) l := by
  unfold sum
  rw [(nonZero_sh φ _).1, (putAll_sh φ l [] (by simp only [mass, sg] at h ⊢; omega)).1]; simp [sg]
theorem sum_mass {l : List Rw} (h : mass l < 9223372036854775808) : mass (sum l) ≤ mass l := by
  unfold sum
  rw [(nonZero_sh (fun _ _ _ => 0) _).2]
  have := (putAll_sh (fun _ _ _ => 0) l [] (by simp only [mass, sg] at h ⊢; omega)).2
  simp only [mass, sg] at this ⊢; omega
/-- rows in order, none of nothing -/
def canon (l : List Rw) : Prop := l.Pairwise ltR ∧ ∀ r ∈ l, r.f3 ≠ 0
theorem putAll_asc : ∀ (l s : List Rw), s.Pairwise ltR → (putAll s l).Pairwise ltR
  | [], s, h => h
  | r :: l, s, h => putAll_asc l _ (putR_asc h)
theorem sum_canon (l : List Rw) : canon (sum l) := ⟨(putAll_asc l [] List.Pairwise.nil).filter _, fun r hr => by simpa using (List.mem_filter.1 hr).2⟩
def dl (k : Rw) : Wt := fun a b t => if a = k.f0 ∧ b = k.f1 ∧ t = k.f2 then 1 else 0
theorem dl_self {k r : Rw} (h : sameR r k) : sh (dl k) r = r.f3 := by unfold sh dl; rw [if_pos (sameR_eq h)]; omega
theorem dl_not {k r : Rw} (h : ¬ sameR r k) : sh (dl k) r = 0 := by
  unfold sh dl; rw [if_neg (fun e => h ⟨e.1, e.2.1, by rw [e.2.2], by rw [e.2.2]⟩)]; omega
theorem sg_dl_not {l : List Rw} {k : Rw} (h : ∀ r ∈ l, ¬ sameR r k) : sg (sh (dl k)) l = 0 := sg_zero fun r hr => dl_not (h r hr)
theorem sg_dl {k : Rw} : ∀ {l : List Rw}, l.Pairwise ltR → ∀ r ∈ l, sameR r k → sg (sh (dl k)) l = r.f3
  | x :: l, ha, r, hr, hs => by
    obtain ⟨h1, h2⟩ := List.pairwise_cons.1 ha
    rcases List.mem_cons.1 hr with rfl | hr
    · rw [sg, dl_self hs, sg_dl_not (fun y hy e => ltR_ne (h1 y hy) (sameR_trans hs (sameR_symm e)))]; omega
    · rw [sg, dl_not (fun e => ltR_ne (h1 r hr) (sameR_trans e (sameR_symm hs))), sg_dl h2 r hr hs]; omega
theorem canon_sub {l m : List Rw} (hl : canon l) (hm : canon m) (h : ∀ φ, sg (sh φ) l = sg (sh φ) m) : ∀ r ∈ l, r ∈ m := fun r hr => by
  have h1 := sg_dl hl.1 r hr (sameR_refl r)
  rw [h] at h1
  by_cases he : ∃ x ∈ m, sameR x r
  · obtain ⟨x, hx, e⟩ := he
    have h2 := sg_dl hm.1 x hx e
    rw [h1] at h2
    have : r = x := Rw.ext' e.1.symm e.2.1.symm (Tm.ext' e.2.2.1.symm e.2.2.2.symm) h2
    rw [this]; exact hx
  · rw [sg_dl_not (fun x hx e => he ⟨x, hx, e⟩)] at h1
    exact absurd h1.symm (hl.2 r hr)
/-- rows in order that tell the same are the same -/
theorem canon_eq {l m : List Rw} (hl : canon l) (hm : canon m) (h : ∀ φ, sg (sh φ) l = sg (sh φ) m) : l = m :=
  asc_unique ltR_irr (fun x y z h1 h2 => ltR_trans h1 h2) hl.1 hm.1 (fun x => ⟨canon_sub hl hm h x, canon_sub hm hl (fun φ => (h φ).symm) x⟩)
theorem sum_eq {l m : List Rw} (h1 : mass l < 9223372036854775808) (h2 : mass m < 9223372036854775808) (h : ∀ φ, sg (sh φ) l = sg (sh φ) m) : sum l = sum m :=
  canon_eq (sum_canon l) (sum_canon m) (fun φ => by rw [sum_sh h1, sum_sh h2, h])
theorem sum_self {l : List Rw} (hl : canon l) (h : mass l < 9223372036854775808) : sum l = l := canon_eq (sum_canon l) hl (fun φ => sum_sh h φ)
theorem sum_from {l : List Rw} : ∀ r ∈ sum l, ∃ x ∈ l, sameR x r := by
  have go : ∀ (l s : List Rw), ∀ r ∈ putAll s l, (∃ x ∈ s, sameR x r) ∨ ∃ x ∈ l, sameR x r := by
    intro l
    induction l with
    | nil => intro s r hr; exact .inl ⟨r, hr, sameR_refl r⟩
    | cons y l ih =>
      intro s r hr
      rcases ih _ r hr with ⟨x, hx, e⟩ | ⟨x, hx, e⟩
      · have hp : ∀ (s : List Rw), ∀ x ∈ put y s, x ∈ s ∨ sameR x y := by
          intro s
          induction s with
          | nil => intro x hx; rw [put, List.mem_singleton] at hx; subst hx; exact .inr (sameR_refl _)
          | cons z s ihs =>
            intro x hx
            rw [put] at hx
            split at hx
            · rcases List.mem_cons.1 hx with rfl | hx
              · exact .inr (sameR_refl _)
              · exact .inl hx
            · split at hx
              · rcases List.mem_cons.1 hx with rfl | hx
                · exact .inr ⟨rfl, rfl, rfl, rfl⟩
                · exact .inl (List.mem_cons_of_mem _ hx)
              · rcases List.mem_cons.1 hx with rfl | hx
                · exact .inl List.mem_cons_self
                · rcases ihs x hx with h | h
                  · exact .inl (List.mem_cons_of_mem _ h)
                  · exact .inr h
        rcases hp s x hx with h | h
        · exact .inl ⟨x, h, e⟩
        · exact .inr ⟨y, List.mem_cons_self, sameR_trans (sameR_symm h) e⟩
      · exact .inr ⟨x, List.mem_cons_of_mem _ hx, e⟩
  intro r hr
  rcases go l [] r (List.mem_filter.1 hr).1 with ⟨x, hx, _⟩ | h
  · cases hx
  · exact h
theorem put_len (r : Rw) : ∀ s : List Rw, (put r s).length ≤ s.length + 1
  | [] => by simp [put]
  | x :: s => by
    rw [put]; split
    · simp
    · split
      · simp
      · have := put_len r s; simp; omega
theorem sum_len (l : List Rw) : (sum l).length ≤ l.length := by
  have go : ∀ (l s : List Rw), (putAll s l).length ≤ s.length + l.length := by
    intro l
    induction l with
    | nil => intro s; simp [putAll]
    | cons y l ih => intro s; have h1 := ih (put y s); have h2 := put_len y s; rw [putAll, List.length_cons]; omega
  have h1 := go l []
  have h2 := List.length_filter_le (fun r : Rw => decide (r.f3 ≠ 0)) (putAll [] l)
  unfold sum nonZero; simp at h1; omega
/-- when a sum is a batch -/
theorem asc_of : ∀ {l : List Rw}, canon l → asc l = true
  | [], _ => rfl
  | r :: l, h => by
    have go : ∀ (l : List Rw) (p : Rw), (p :: l).Pairwise ltR → (∀ x ∈ l, x.f3 ≠ 0) → ascGo p l = true := by
      intro l
      induction l with
      | nil => intro p _ _; rfl
      | cons y l ih =>
        intro p hp hz
        obtain ⟨h1, h2⟩ := List.pairwise_cons.1 hp
        rw [ascGo, ih y h2 (fun x hx => hz x (List.mem_cons_of_mem _ hx)), (rowAhead_iff p y).2 (h1 y List.mem_cons_self), decide_eq_true (hz y List.mem_cons_self)]; rfl
    rw [asc, go l r h.1 (fun x hx => h.2 x (List.mem_cons_of_mem _ hx)), decide_eq_true (h.2 r List.mem_cons_self)]; rfl
theorem canon_of : ∀ {l : List Rw}, asc l = true → canon l
  | [], _ => ⟨List.Pairwise.nil, fun r hr => by cases hr⟩
  | r :: l, h => by
    have go : ∀ (l : List Rw) (p : Rw), ascGo p l = true → (p :: l).Pairwise ltR ∧ ∀ x ∈ l, x.f3 ≠ 0 := by
      intro l
      induction l with
      | nil => intro p _; exact ⟨List.pairwise_singleton _ _, fun x hx => by cases hx⟩
      | cons y l ih =>
        intro p hp
        simp only [ascGo, Bool.and_eq_true, decide_eq_true_eq] at hp
        obtain ⟨⟨h1, h2⟩, h3⟩ := hp
        obtain ⟨i1, i2⟩ := ih y h3
        have h2' := (rowAhead_iff p y).1 h2
        refine ⟨List.pairwise_cons.2 ⟨fun x hx => ?_, i1⟩, fun x hx => ?_⟩
        · rcases List.mem_cons.1 hx with rfl | hx
          · exact h2'
          · exact ltR_trans h2' ((List.pairwise_cons.1 i1).1 x hx)
        · rcases List.mem_cons.1 hx with rfl | hx
          · exact h1
          · exact i2 x hx
    simp only [asc, Bool.and_eq_true, decide_eq_true_eq] at h
    obtain ⟨i1, i2⟩ := go l r h.2
    exact ⟨i1, fun x hx => (List.mem_cons.1 hx).elim (fun e => e ▸ h.1) (i2 x)⟩
theorem rowOk_key {x r : Rw} (h : sameR x r) (hx : rowOk x = true) (hr : (r.f3.natAbs : Int) ≤ 99999) : rowOk r = true := by
  obtain ⟨e0, e1, e2⟩ := sameR_eq h
  simp only [rowOk, Bool.and_eq_true, decide_eq_true_eq] at hx ⊢
  rw [← e0, ← e1, ← e2]
  exact ⟨⟨hx.1.1, by omega⟩, by omega⟩
theorem batchOk_sum {l : List Rw} (h : ∀ x ∈ l, rowOk x = true) (hm : mass l ≤ 99999) (hn : l.length ≤ 400) : batchOk (sum l) = true := by
  have hl := sum_len l
  have hms := sum_mass (l := l) (by omega)
  unfold batchOk rowsOk
  rw [asc_of (sum_canon l), decide_eq_true (by omega), Bool.and_true, Bool.true_and, List.all_eq_true]
  intro r hr
  obtain ⟨x, hx, e⟩ := sum_from r hr
  have := mass_mem hr
  exact rowOk_key e (h x hx) (by omega)
theorem batchOk_canon {l : List Rw} (h : batchOk l = true) : canon l ∧ (∀ r ∈ l, rowOk r = true) ∧ l.length ≤ 400 := by
  simp only [batchOk, rowsOk, Bool.and_eq_true, List.all_eq_true, decide_eq_true_eq] at h
  exact ⟨canon_of h.1, h.2.1, h.2.2⟩
theorem fit_yes {l : List Rw} (h : batchOk l = true) : fit l = l := if_pos h
end Go.Proofs.Ytbbkimgadohdkaa.X
