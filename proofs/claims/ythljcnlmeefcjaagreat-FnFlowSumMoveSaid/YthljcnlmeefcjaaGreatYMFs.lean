/- Changes of sums. Conditions: none. -/
import Derived.Test.YthljcnlmeefcjaaGreatYCPl
import Derived.Test.YthljcnlmeefcjaaGreatYMPl
import Derived.Test.YthljcnlmeefcjaaGreatYMFt
import Derived.Test.YthljcnlmeefcjaaGreatYMSb
import Derived.Test.YthljcnlmeefcjaaGreatYMFl
namespace Go.Proofs.YthljcnlmeefcjaaGreat.X
open Go.RowKit
set_option linter.unusedVariables false
set_option linter.unusedSimpArgs false

/-- the same but for whole turns -/
def Md (a b : Int) : Prop := ∃ c : Int, a = b + 18446744073709551616 * c
theorem Md.refl (a : Int) : Md a a := ⟨0, by omega⟩
theorem Md.of {a b : Int} (h : a = b) : Md a b := ⟨0, by omega⟩
theorem Md.symm {a b : Int} (h : Md a b) : Md b a := by obtain ⟨c, hc⟩ := h; exact ⟨-c, by omega⟩
theorem Md.trans {a b d : Int} (h : Md a b) (g : Md b d) : Md a d := by obtain ⟨c, hc⟩ := h; obtain ⟨e, he⟩ := g; exact ⟨c + e, by omega⟩
theorem Md.add {a b a' b' : Int} (h : Md a b) (g : Md a' b') : Md (a + a') (b + b') := by obtain ⟨c, hc⟩ := h; obtain ⟨e, he⟩ := g; exact ⟨c + e, by omega⟩
theorem Md.neg {a b : Int} (h : Md a b) : Md (-a) (-b) := by obtain ⟨c, hc⟩ := h; exact ⟨-c, by omega⟩
theorem Md.mul {a b : Int} (h : Md a b) (k : Int) : Md (a * k) (b * k) := by
  obtain ⟨c, hc⟩ := h
  exact ⟨c * k, by rw [hc, Int.add_mul, Int.mul_assoc]⟩
theorem Md.wrap (a : Int) : Md (wrap64 a) a := by
  unfold wrap64
  exact ⟨-((a + 9223372036854775808) / 18446744073709551616), by omega⟩
def inR (a : Int) : Prop := -9223372036854775808 ≤ a ∧ a < 9223372036854775808
theorem inR_wrap (a : Int) : inR (wrap64 a) := by unfold inR wrap64; omega
theorem Md.eq {a b : Int} (ha : inR a) (hb : inR b) (h : Md a b) : a = b := by
  obtain ⟨c, hc⟩ := h
  unfold inR at ha hb
  omega
theorem put_Md (φ : Wt) (r : Rw) : ∀ s : List Rw, Md (sg (sh φ) (put r s)) (sh φ r + sg (sh φ) s)
  | [] => Md.of rfl
  | x :: s => by
    rw [put]
    by_cases h1 : 0 < comp x r
    · rw [if_pos h1]; exact Md.of rfl
    · rw [if_neg h1]
      by_cases h2 : comp x r = 0
      · rw [if_pos h2]
        obtain ⟨e0, e1, e2⟩ := sameR_eq ((compR_zero x r).1 h2)
        have hw := (Md.wrap (r.f3 + x.f3)).mul (φ r.f0 r.f1 r.f2)
        simp only [sg, sh, e0, e1, e2] at hw ⊢
        rw [← Int.add_assoc, ← Int.add_mul]
        exact hw.add (Md.refl _)
      · rw [if_neg h2]
        have ih := put_Md φ r s
        simp only [sg]
        refine (Md.add (Md.refl _) ih).trans (Md.of (by omega))
theorem putAll_Md (φ : Wt) : ∀ l s : List Rw, Md (sg (sh φ) (putAll s l)) (sg (sh φ) s + sg (sh φ) l)
  | [], s => by rw [putAll]; exact Md.of (by simp [sg])
  | r :: l, s => by
    rw [putAll]
    refine (putAll_Md φ l (put r s)).trans ?_
    have := put_Md φ r s
    refine ((this.add (Md.refl (sg (sh φ) l)))).trans (Md.of (by simp only [sg]; omega))
theorem sum_Md (φ : Wt) (l : List Rw) : Md (sg (sh φ) (sum l)) (sg (sh φ) l) := by
  unfold sum
  rw [(nonZero_sh φ _).1]
  exact (putAll_Md φ l []).trans (Md.of (by simp [sg]))
theorem put_inR {r : Rw} (hr : inR r.f3) : ∀ {s : List Rw}, (∀ x ∈ s, inR x.f3) → ∀ x ∈ put r s, inR x.f3
  | [], _, x, hx => by rw [put, List.mem_singleton] at hx; rw [hx]; exact hr
  | y :: s, hs, x, hx => by
    rw [put] at hx
    split at hx
    · rcases List.mem_cons.1 hx with rfl | hx
      · exact hr
      · exact hs x hx
    · split at hx
      · rcases List.mem_cons.1 hx with rfl | hx
        · exact inR_wrap _
        · exact hs x (List.mem_cons_of_mem _ hx)
      · rcases List.mem_cons.1 hx with rfl | hx
        · exact hs _ List.mem_cons_self
        · exact put_inR hr (fun z hz => hs z (List.mem_cons_of_mem _ hz)) x hx
theorem putAll_inR : ∀ {l s : List Rw}, (∀ x ∈ l, inR x.f3) → (∀ x ∈ s, inR x.f3) → ∀ x ∈ putAll s l, inR x.f3
  | [], s, _, hs => hs
  | r :: l, s, hl, hs => fun x hx => putAll_inR (l := l) (s := put r s) (fun y hy => hl y (List.mem_cons_of_mem _ hy)) (put_inR (hl r List.mem_cons_self) hs) x hx
theorem sum_inR {l : List Rw} (h : ∀ x ∈ l, inR x.f3) : ∀ x ∈ sum l, inR x.f3 := fun x hx =>
  putAll_inR h (fun y hy => by cases hy) x (List.mem_filter.1 hx).1
theorem canon_subM {l m : List Rw} (hl : canon l) (hm : canon m) (il : ∀ x ∈ l, inR x.f3) (im : ∀ x ∈ m, inR x.f3) (h : ∀ φ, Md (sg (sh φ) l) (sg (sh φ) m)) : ∀ r ∈ l, r ∈ m := fun r hr => by
  have h1 := sg_dl hl.1 r hr (sameR_refl r)
  have hk := h (dl r)
  rw [h1] at hk
  by_cases he : ∃ x ∈ m, sameR x r
  · obtain ⟨x, hx, e⟩ := he
    have h2 := sg_dl hm.1 x hx e
    rw [h2] at hk
    have h3 := Md.eq (il r hr) (im x hx) hk
    have : r = x := Rw.ext' e.1.symm e.2.1.symm (Tm.ext' e.2.2.1.symm e.2.2.2.symm) h3
    rw [this]; exact hx
  · rw [sg_dl_not (fun x hx e => he ⟨x, hx, e⟩)] at hk
    exact absurd (Md.eq (il r hr) (by unfold inR; omega) hk) (hl.2 r hr)
/-- two lists that tell the same but for whole turns have one sum -/
theorem sum_eqM {l m : List Rw} (il : ∀ x ∈ l, inR x.f3) (im : ∀ x ∈ m, inR x.f3) (h : ∀ φ, Md (sg (sh φ) l) (sg (sh φ) m)) : sum l = sum m := by
  have hh : ∀ φ, Md (sg (sh φ) (sum l)) (sg (sh φ) (sum m)) := fun φ => ((sum_Md φ l).trans (h φ)).trans (sum_Md φ m).symm
  exact asc_unique ltR_irr (fun x y z h1 h2 => ltR_trans h1 h2) (sum_canon l).1 (sum_canon m).1 (fun x => ⟨canon_subM (sum_canon l) (sum_canon m) (sum_inR il) (sum_inR im) hh x, canon_subM (sum_canon m) (sum_canon l) (sum_inR im) (sum_inR il) (fun φ => (hh φ).symm) x⟩)
theorem items_Md (ψ : Int → Int → Int) (l : List It) : Md (sg (shI ψ) (items l)) (sg (shI ψ) l) := by
  unfold items
  rw [sh_itemOf]
  refine (sum_Md _ _).trans ?_
  rw [sh_rowOf]; exact Md.refl _
theorem items_inR {l : List It} (h : ∀ x ∈ l, inR x.f2) : ∀ x ∈ items l, inR x.f2 := fun x hx => by
  unfold items at hx
  obtain ⟨r, hr, rfl⟩ := List.mem_map.1 hx
  exact sum_inR (fun y hy => by obtain ⟨z, hz, rfl⟩ := List.mem_map.1 hy; exact h z hz) r hr
theorem items_eqM {l m : List It} (il : ∀ x ∈ l, inR x.f2) (im : ∀ x ∈ m, inR x.f2) (h : ∀ ψ, Md (sg (shI ψ) l) (sg (shI ψ) m)) : items l = items m := by
  have e : sum (l.map rowOf) = sum (m.map rowOf) := sum_eqM (fun y hy => by obtain ⟨z, hz, rfl⟩ := List.mem_map.1 hy; exact il z hz) (fun y hy => by obtain ⟨z, hz, rfl⟩ := List.mem_map.1 hy; exact im z hz) (fun φ => by rw [sh_rowOf, sh_rowOf]; exact h _)
  unfold items
  rw [e]
theorem sg_Md {α : Type} {f g : α → Int} : ∀ {l : List α}, (∀ x ∈ l, Md (f x) (g x)) → Md (sg f l) (sg g l)
  | [], _ => Md.refl _
  | x :: l, h => (h x List.mem_cons_self).add (sg_Md fun y hy => h y (List.mem_cons_of_mem _ hy))
theorem negI_Md (ψ : Int → Int → Int) (l : List It) : Md (sg (shI ψ) (l.map negI)) (- sg (shI ψ) l) := by
  rw [sg_map, ← sg_neg]
  refine sg_Md fun x _ => ?_
  have := (Md.wrap (-x.f2)).mul (ψ x.f0 x.f1)
  unfold shI negI
  rw [Int.neg_mul] at this
  exact this
end Go.Proofs.YthljcnlmeefcjaaGreat.X

namespace Go.Proofs.YthljcnlmeefcjaaGreat.X
open Go.RowKit
set_option linter.unusedVariables false
set_option linter.unusedSimpArgs false

def countedL (s : List It) : List It := (List.range 4).flatMap fun k : Nat => if keyC s (k : Int) = 0 then [] else [⟨(k : Int), cval (keyC s (k : Int)), 1⟩]
def aggL (s : List It) (kind : Int) : List It := if kind = 1 then countedL s else if kind = 2 then onceL s else leastL s
def toRw (t : Tm) (x : It) : Rw := ⟨x.f0, x.f1, t, x.f2⟩
def dueL (own m : List Rw) (kind : Int) (t : Tm) : List It := aggL (present own t) kind ++ (present m t).map negI
def stepM (own : List Rw) (kind : Int) (m : List Rw) (t : Tm) : List Rw := m ++ (items (dueL own m kind t)).map (toRw t)
def ownK (a : List Rw) (key : Int) : List Rw := a.filter fun r => decide (r.f0 = key)
noncomputable def sumKey (a : List Rw) (kind key : Int) : List Rw := (flowTimes a key).foldl (stepM (ownK a key) kind) []
noncomputable def allSum (a : List Rw) (kind : Int) : List Rw := (List.range 4).flatMap fun k : Nat => sumKey a kind (k : Int)
noncomputable def flowSum (a : List Rw) (kind : Int) : List Rw := if rowsOk a && decide (1 ≤ kind) && decide (kind ≤ 3) then fit (sum (allSum a kind)) else []
/-- items of one key, values in bounds -/
def OneK (key : Int) (l : List It) : Prop := ∀ x ∈ l, x.f0 = key ∧ 0 ≤ x.f1 ∧ x.f1 ≤ 99
theorem cval_in (n : Int) : 0 ≤ cval n ∧ cval n ≤ 99 := by
  unfold cval
  have h1 : -99 ≤ Int.tmod n 100 ∧ Int.tmod n 100 ≤ 99 := by
    rcases Int.le_total 0 n with h | h
    · rw [Int.tmod_eq_emod_of_nonneg h]; omega
    · have e : Int.tmod n 100 = - Int.tmod (-n) 100 := by rw [Int.neg_tmod]; omega
      rw [e, Int.tmod_eq_emod_of_nonneg (by omega)]; omega
  have h2 : wrap64 (Int.tmod n 100 + 100) = Int.tmod n 100 + 100 := by unfold wrap64; omega
  rw [h2, Int.tmod_eq_emod_of_nonneg (by omega)]; omega
theorem leastF_same {key : Int} : ∀ {l : List It}, (∀ x ∈ l, x.f0 = key) → leastF (some key) l = []
  | [], _ => rfl
  | x :: l, h => by
    rw [leastF, if_pos (by rw [h x List.mem_cons_self])]
    exact leastF_same fun y hy => h y (List.mem_cons_of_mem _ hy)
theorem leastF_take {key : Int} : ∀ {l : List It}, (∀ x ∈ l, x.f0 = key) → leastF none l = l.take 1
  | [], _ => rfl
  | x :: l, h => by
    rw [leastF, if_neg (by simp), h x List.mem_cons_self, leastF_same (fun y hy => h y (List.mem_cons_of_mem _ hy))]; rfl
theorem onceL_key {key : Int} {s : List It} (h : ∀ x ∈ s, x.f0 = key) : ∀ x ∈ onceL s, x.f0 = key := fun x hx => by
  unfold onceL at hx
  obtain ⟨y, hy, rfl⟩ := List.mem_map.1 hx
  exact h y (List.mem_filter.1 hy).1
theorem keyO_all {key : Int} {s : List It} (h : ∀ x ∈ s, x.f0 = key) : keyO s key = onceL s := by
  unfold keyO
  rw [List.filter_eq_self.2 (fun x hx => decide_eq_true (h x hx))]
theorem keyC_other {key k : Int} {s : List It} (h : ∀ x ∈ s, x.f0 = key) (hk : k ≠ key) : keyC s k = 0 := sg_zero fun x hx => if_neg (by rw [h x hx]; exact fun e => hk e.symm)
/-- what is made of items of one key -/
theorem agg_key {key kind : Int} {s : List It} (h : ∀ x ∈ s, x.f0 = key) (h0 : 0 ≤ key) (h3 : key ≤ 3) (k1 : 1 ≤ kind) (k3 : kind ≤ 3) : aggL s kind = keyL s key kind := by
  unfold aggL keyL
  rcases (show kind = 1 ∨ kind = 2 ∨ kind = 3 by omega) with rfl | rfl | rfl
  · simp only [if_true]
    rw [if_neg (by decide), if_neg (by decide)]
    unfold countedL
    have z : ∀ k : Int, k ≠ key → keyC s k = 0 := fun k hk => keyC_other h hk
    have e4 : List.range 4 = [0, 1, 2, 3] := rfl
    rw [e4]
    rcases (show key = 0 ∨ key = 1 ∨ key = 2 ∨ key = 3 by omega) with rfl | rfl | rfl | rfl <;> simp [z]
  · rw [if_neg (by decide), if_pos rfl, if_pos rfl, keyO_all h]
  · rw [if_neg (by decide), if_neg (by decide), if_neg (by decide), if_pos rfl, keyO_all h]
    exact leastF_take (onceL_key h)
theorem onceL_in {key : Int} {s : List It} (h : OneK key s) : OneK key (onceL s) ∧ ∀ x ∈ onceL s, x.f2 = 1 := by
  constructor
  · intro x hx
    unfold onceL at hx
    obtain ⟨y, hy, rfl⟩ := List.mem_map.1 hx
    exact h y (List.mem_filter.1 hy).1
  · intro x hx
    unfold onceL at hx
    obtain ⟨y, hy, rfl⟩ := List.mem_map.1 hx
    rfl
theorem keyL_in {key kind : Int} {s : List It} (h : OneK key s) (k1 : 1 ≤ kind) (k3 : kind ≤ 3) : OneK key (keyL s key kind) ∧ ∀ x ∈ keyL s key kind, x.f2 = 1 := by
  have ho := onceL_in h
  have e := keyO_all (fun x hx => (h x hx).1)
  unfold keyL
  rcases (show kind = 1 ∨ kind = 2 ∨ kind = 3 by omega) with rfl | rfl | rfl
  · rw [if_neg (by decide), if_neg (by decide), if_pos rfl]
    split
    · exact ⟨fun x hx => (by cases hx), fun x hx => (by cases hx)⟩
    · have := cval_in (keyC s key)
      exact ⟨fun x hx => by rw [List.mem_singleton.1 hx]; exact ⟨rfl, this.1, this.2⟩, fun x hx => by rw [List.mem_singleton.1 hx]⟩
  · rw [if_pos rfl, e]; exact ho
  · rw [if_neg (by decide), if_pos rfl, e]
    exact ⟨fun x hx => ho.1 x (List.mem_of_mem_take hx), fun x hx => ho.2 x (List.mem_of_mem_take hx)⟩
theorem keyL_len1 {key kind : Int} {s : List It} (h : OneK key s) (hl : s.length ≤ 1000) (k1 : 1 ≤ kind) (k3 : kind ≤ 3) : (keyL s key kind).length ≤ 1000 := by
  have ho := keyO_len s key
  unfold keyL
  rcases (show kind = 1 ∨ kind = 2 ∨ kind = 3 by omega) with rfl | rfl | rfl
  · rw [if_neg (by decide), if_neg (by decide), if_pos rfl]
    split <;> simp
  · rw [if_pos rfl]; omega
  · rw [if_neg (by decide), if_pos rfl, List.length_take]; omega
theorem OneK.items {key : Int} {l : List It} (h : OneK key l) : OneK key (items l) := fun y hy => by
  obtain ⟨x, hx, e0, e1⟩ := items_from y hy
  have := h x hx
  omega
theorem sub_len {α : Type} [BEq α] [LawfulBEq α] : ∀ (l m : List α), l.Nodup → (∀ t ∈ l, t ∈ m) → l.length ≤ m.length
  | [], m, _, _ => Nat.zero_le _
  | x :: l, m, hn, hm => by
    obtain ⟨h1, h2⟩ := List.nodup_cons.1 hn
    have hx := hm x List.mem_cons_self
    have := sub_len l (m.erase x) h2 (fun t ht => (List.mem_erase_of_ne (fun e => h1 (by rw [← e]; exact ht))).2 (hm t (List.mem_cons_of_mem _ ht)))
    rw [List.length_erase_of_mem hx] at this
    have := List.length_pos_of_mem hx
    rw [List.length_cons]; omega
/-- few items of one key -/
theorem items_few {key : Int} {l : List It} (h : OneK key l) : (items l).length ≤ 100 := by
  have hk := h.items
  have hc := (items_canon l).1
  have hn : ((items l).map fun x => x.f1.toNat).Nodup := by
    rw [List.Nodup, List.pairwise_map]
    refine hc.imp_of_mem fun {x y} hx hy e => ?_
    have h1 := hk x hx
    have h2 := hk y hy
    unfold ltI at e
    omega
  have := sub_len _ (List.range 100) hn (fun t ht => by
    obtain ⟨x, hx, rfl⟩ := List.mem_map.1 ht
    have := hk x hx
    exact List.mem_range.2 (by omega))
  rw [List.length_map, List.length_range] at this
  exact this
/-- rows made so far of a key -/
structure MadeOk (key : Int) (n : Nat) (m : List Rw) : Prop where
  in_ : ∀ r ∈ m, r.f0 = key ∧ (0 ≤ r.f1 ∧ r.f1 ≤ 99) ∧ tOk r.f2 = true ∧ inR r.f3
  len : m.length ≤ 100 * n
theorem MadeOk.start (key : Int) : MadeOk key 0 [] := ⟨fun r hr => (by cases hr), Nat.zero_le _⟩
theorem present_one {key : Int} {l : List Rw} (h : ∀ r ∈ l, r.f0 = key ∧ (0 ≤ r.f1 ∧ r.f1 ≤ 99)) (t : Tm) : OneK key (presentOf l t) ∧ OneK key (present l t) := by
  have h1 : OneK key (presentOf l t) := fun y hy => by
    obtain ⟨r, hr, rfl⟩ := presentOf_mem hy
    have := h r hr
    exact ⟨this.1, this.2.1, this.2.2⟩
  exact ⟨h1, h1.items⟩
theorem negI_one {key : Int} {l : List It} (h : OneK key l) : OneK key (l.map negI) := fun y hy => by
  obtain ⟨x, hx, rfl⟩ := List.mem_map.1 hy
  exact h x hx
theorem own_in {a : List Rw} {key : Int} (ha : ∀ r ∈ a, rowOk r = true) : ∀ r ∈ ownK a key, r.f0 = key ∧ (0 ≤ r.f1 ∧ r.f1 ≤ 99) := fun r hr => by
  obtain ⟨h1, h2⟩ := List.mem_filter.1 hr
  have := rowOk_in (ha r h1)
  exact ⟨of_decide_eq_true h2, this.2.1⟩
theorem due_in {a m : List Rw} {key kind : Int} {n : Nat} (ha : ∀ r ∈ a, rowOk r = true) (h0 : 0 ≤ key) (h3 : key ≤ 3) (k1 : 1 ≤ kind) (k3 : kind ≤ 3) (hm : MadeOk key n m) (t : Tm) :
    OneK key (dueL (ownK a key) m kind t) ∧ ∀ x ∈ dueL (ownK a key) m kind t, inR x.f2 := by
  have hp := (present_one (own_in (key := key) ha) t).2
  have e := agg_key (kind := kind) (fun x hx => (hp x hx).1) h0 h3 k1 k3
  have hk := keyL_in hp k1 k3
  have hq := (present_one (fun r hr => ⟨(hm.in_ r hr).1, (hm.in_ r hr).2.1⟩) t).2
  unfold dueL
  rw [e]
  constructor
  · intro x hx
    rcases List.mem_append.1 hx with hx | hx
    · exact hk.1 x hx
    · exact negI_one hq x hx
  · intro x hx
    rcases List.mem_append.1 hx with hx | hx
    · rw [hk.2 x hx]; unfold inR; omega
    · obtain ⟨y, hy, rfl⟩ := List.mem_map.1 hx
      exact inR_wrap _
theorem MadeOk.step {a m : List Rw} {key kind : Int} {n : Nat} (ha : ∀ r ∈ a, rowOk r = true) (h0 : 0 ≤ key) (h3 : key ≤ 3) (k1 : 1 ≤ kind) (k3 : kind ≤ 3) (hm : MadeOk key n m) {t : Tm} (ht : tOk t = true) : MadeOk key (n + 1) (stepM (ownK a key) kind m t) := by
  obtain ⟨d1, d2⟩ := due_in ha h0 h3 k1 k3 hm t
  have hf := items_few d1
  refine ⟨fun r hr => ?_, by unfold stepM; rw [List.length_append, List.length_map]; have := hm.len; omega⟩
  unfold stepM at hr
  rcases List.mem_append.1 hr with hr | hr
  · exact hm.in_ r hr
  · obtain ⟨x, hx, rfl⟩ := List.mem_map.1 hr
    have := d1.items x hx
    exact ⟨this.1, ⟨this.2.1, this.2.2⟩, ht, items_inR d2 x hx⟩
/-- what the reference lacks at a time -/
def lackR (key : Int) (r : Rw) : It := ⟨key, r.f1, wrap64 (-r.f3)⟩
def lackL (own m : List Rw) (key kind : Int) (t : Tm) : List It := keyL (present own t) key kind ++ (m.filter fun r => tLess r.f2 t).map (lackR key)
theorem lack_eq {a m : List Rw} {key kind : Int} {n : Nat} (ha : ∀ r ∈ a, rowOk r = true) (h0 : 0 ≤ key) (h3 : key ≤ 3) (k1 : 1 ≤ kind) (k3 : kind ≤ 3) (hm : MadeOk key n m) {t : Tm} (ht : tOk t = true) :
    items (lackL (ownK a key) m key kind t) = items (dueL (ownK a key) m kind t) := by
  have hp := (present_one (own_in (key := key) ha) t).2
  have e := agg_key (kind := kind) (fun x hx => (hp x hx).1) h0 h3 k1 k3
  have hk := keyL_in hp k1 k3
  refine items_eqM (fun x hx => ?_) (due_in ha h0 h3 k1 k3 hm t).2 (fun ψ => ?_)
  · unfold lackL at hx
    rcases List.mem_append.1 hx with hx | hx
    · rw [hk.2 x hx]; unfold inR; omega
    · obtain ⟨y, hy, rfl⟩ := List.mem_map.1 hx
      exact inR_wrap _
  · unfold lackL dueL
    rw [e, sh_append, sh_append]
    refine (Md.refl _).add ?_
    refine Md.trans ?_ (negI_Md ψ _).symm
    have h1 : Md (- sg (shI ψ) (present m t)) (- sg (shI ψ) (presentOf m t)) := (items_Md ψ _).neg
    refine Md.trans ?_ h1.symm
    have ef : (m.filter fun r => tLess r.f2 t) = m.filter fun r => below r.f2 t := by
      refine List.filter_congr fun r hr => ?_
      unfold tLess
      rw [(hm.in_ r hr).2.2.1, ht]; rfl
    rw [ef]
    unfold presentOf
    rw [sg_map, sg_map, ← sg_neg]
    refine sg_Md fun r hr => ?_
    have hr2 := (List.mem_filter.1 hr).1
    have := (Md.wrap (-r.f3)).mul (ψ key r.f1)
    unfold shI lackR itemOf
    simp only
    rw [(hm.in_ r hr2).1]
    rw [Int.neg_mul] at this
    exact this
/-- rows made of items of a key are told by the key -/
theorem map_toRw {key : Int} {l : List It} (h : OneK key l) (t : Tm) : l.map (toRw t) = l.map fun x => (⟨key, x.f1, t, x.f2⟩ : Rw) := by
  refine List.map_congr_left fun x hx => ?_
  unfold toRw
  rw [(h x hx).1]
theorem ownK_snoc {a : List Rw} {k : Nat} {x : Rw} (hx : a[k]? = some x) (key : Int) : ownK (a.take (k + 1)) key = ownK (a.take k) key ++ (if x.f0 = key then [x] else []) := by
  rw [take_snoc hx]; unfold ownK; rw [List.filter_append]
  by_cases h : x.f0 = key <;> simp [h]
theorem ownK_len (a : List Rw) (key : Int) : (ownK a key).length ≤ a.length := List.length_filter_le _ _
/-- the rows of a key, so many times in -/
def sumTo (own : List Rw) (kind : Int) (ts : List Tm) : List Rw := ts.foldl (stepM own kind) []
theorem sumTo_snoc (own : List Rw) (kind : Int) {ts : List Tm} {k : Nat} {t : Tm} (h : ts[k]? = some t) : sumTo own kind (ts.take (k + 1)) = stepM own kind (sumTo own kind (ts.take k)) t := by
  rw [take_snoc h]; unfold sumTo; rw [List.foldl_append]; rfl
theorem sumTo_ok {a : List Rw} {key kind : Int} (ha : ∀ r ∈ a, rowOk r = true) (h0 : 0 ≤ key) (h3 : key ≤ 3) (k1 : 1 ≤ kind) (k3 : kind ≤ 3) {ts : List Tm} (hts : ∀ t ∈ ts, tOk t = true) : ∀ k, k ≤ ts.length → MadeOk key k (sumTo (ownK a key) kind (ts.take k))
  | 0, _ => MadeOk.start key
  | k + 1, h => by
    obtain ⟨t, ht⟩ : ∃ t, ts[k]? = some t := ⟨_, List.getElem?_eq_getElem (by omega)⟩
    rw [sumTo_snoc _ _ ht]
    exact (sumTo_ok ha h0 h3 k1 k3 hts k (by omega)).step ha h0 h3 k1 k3 (hts t (List.mem_of_getElem? ht))
theorem flowTimes_ok (l : List Rw) (key : Int) : ∀ t ∈ flowTimes l key, tOk t = true := fun t ht => by
  unfold flowTimes at ht
  split at ht
  · exact (mem_timesL.1 ht).1
  · cases ht
theorem flowTimes_len' (l : List Rw) (key : Int) : (flowTimes l key).length ≤ 64 := by
  unfold flowTimes
  split
  · exact cntT_le _
  · simp
noncomputable def allTo (a : List Rw) (kind : Int) (n : Nat) : List Rw := (List.range n).flatMap fun k : Nat => sumKey a kind (k : Int)
theorem allTo_succ (a : List Rw) (kind : Int) (n : Nat) : allTo a kind (n + 1) = allTo a kind n ++ sumKey a kind (n : Int) := by
  unfold allTo; rw [List.range_succ, List.flatMap_append]; simp
theorem sumKey_to (a : List Rw) (kind key : Int) : sumKey a kind key = sumTo (ownK a key) kind (flowTimes a key) := rfl
theorem sumKey_ok {a : List Rw} {key kind : Int} (ha : ∀ r ∈ a, rowOk r = true) (h0 : 0 ≤ key) (h3 : key ≤ 3) (k1 : 1 ≤ kind) (k3 : kind ≤ 3) : MadeOk key 64 (sumKey a kind key) := by
  have h := sumTo_ok ha h0 h3 k1 k3 (flowTimes_ok a key) (flowTimes a key).length (Nat.le_refl _)
  rw [List.take_length] at h
  have := flowTimes_len' a key
  exact ⟨h.in_, by have := h.len; rw [sumKey_to]; omega⟩
theorem allTo_len {a : List Rw} {kind : Int} (ha : ∀ r ∈ a, rowOk r = true) (k1 : 1 ≤ kind) (k3 : kind ≤ 3) : ∀ n, n ≤ 4 → (allTo a kind n).length ≤ 6400 * n
  | 0, _ => by simp [allTo]
  | n + 1, h => by
    have := allTo_len ha k1 k3 n (by omega)
    have h2 := (sumKey_ok (key := (n : Int)) ha (by omega) (by omega) k1 k3).len
    rw [allTo_succ, List.length_append]; omega
theorem allTo_fit {a : List Rw} {kind : Int} (ha : ∀ r ∈ a, rowOk r = true) (k1 : 1 ≤ kind) (k3 : kind ≤ 3) : RwFit (allSum a kind) := RwFit.of fun r hr => by
  unfold allSum at hr
  obtain ⟨k, hk, hr⟩ := List.mem_flatMap.1 hr
  have hk4 := List.mem_range.1 hk
  have := (sumKey_ok (key := (k : Int)) ha (by omega) (by omega) k1 k3).in_ r hr
  obtain ⟨h0, h1, h2, h3⟩ := this
  simp only [tOk, Bool.and_eq_true, decide_eq_true_eq] at h2
  unfold inR at h3
  omega
theorem made_fit {key : Int} {n : Nat} {m : List Rw} (h : MadeOk key n m) (h0 : 0 ≤ key) (h3 : key ≤ 3) : RwFit m := RwFit.of fun r hr => by
  obtain ⟨g0, g1, g2, g3⟩ := h.in_ r hr
  simp only [tOk, Bool.and_eq_true, decide_eq_true_eq] at g2
  unfold inR at g3
  omega
theorem present_len {key : Int} {m : List Rw} (h : ∀ r ∈ m, r.f0 = key ∧ (0 ≤ r.f1 ∧ r.f1 ≤ 99)) (t : Tm) : (present m t).length ≤ 100 := by
  unfold present
  exact items_few (present_one h t).1
theorem own_rows {a : List Rw} {key : Int} (ha : ∀ r ∈ a, rowOk r = true) : ∀ r ∈ ownK a key, rowOk r = true := fun r hr => ha r (List.mem_filter.1 hr).1
theorem present_small {a : List Rw} (ha : ∀ r ∈ a, rowOk r = true) (hl : a.length ≤ 400) (t : Tm) : massI (present a t) < 4611686018427387904 := by
  have h1 : mass a ≤ 99999 * a.length := mass_le (c := 99999) fun r hr => by have := rowOk_in (ha r hr); omega
  have h2 := mass_presentOf a t
  have h3 := items_mass (l := presentOf a t) (by omega)
  unfold present
  omega
theorem fit_its {l : List It} (h : ∀ x ∈ l, (0 ≤ x.f0 ∧ x.f0 ≤ 3) ∧ (0 ≤ x.f1 ∧ x.f1 ≤ 99) ∧ inR x.f2) : ∀ x ∈ l, wfI x.f0 ∧ wfI x.f1 ∧ wfI x.f2 := fun x hx => by
  obtain ⟨⟨a, b⟩, ⟨c, d⟩, e⟩ := h x hx
  unfold inR at e
  exact ⟨wf_of (by omega) (by omega), wf_of (by omega) (by omega), wf_of e.1 (by omega)⟩
end Go.Proofs.YthljcnlmeefcjaaGreat.X

namespace Go.Proofs.YthljcnlmeefcjaaGreat.X
open Go.RowKit Go.Proofs.YthljcnlmeefcjaaGreatW.PrintWords
set_option linter.unusedVariables false
set_option linter.unusedSimpArgs false

def countedN (s : List It) (n : Nat) : List It := (List.range n).flatMap fun k : Nat => if keyC s (k : Int) = 0 then [] else [⟨(k : Int), cval (keyC s (k : Int)), 1⟩]
theorem countedN_succ (s : List It) (n : Nat) : countedN s (n + 1) = countedN s n ++ (if keyC s (n : Int) = 0 then [] else [⟨(n : Int), cval (keyC s (n : Int)), 1⟩]) := by
  unfold countedN; rw [List.range_succ, List.flatMap_append]; simp
theorem countedN_len (s : List It) : ∀ n, (countedN s n).length ≤ n
  | 0 => by simp [countedN]
  | n + 1 => by
    have := countedN_len s n
    rw [countedN_succ, List.length_append]
    split <;> simp <;> omega
set_option maxRecDepth 100000 in
set_option maxHeartbeats 4000000 in
theorem impl_counted (v : Value) (s : List It) (w : World) (h : Sl kIt w v s) (hm0 : massI s < 4611686018427387904) (hl1 : s.length ≤ 100000) : Calls Tryz.prog 95 #[v] w (RetR kIt 83 w (countedL s)) := by
  obtain ⟨A, c_, rfl, HC, hr⟩ := h
  have hm := Kd.C_max hr
  have HR := Aside0.mk hr
  clear hr
  have HN := Aside0.mk (R_none (d := kIt) (e := 83) (base := w.heap.size) (ok := okT) (blk_new w (.cells #[] 83)) (Nat.le_refl _) trivial)
  have HB := Aside0.mk (Below.refl w.heap.size w)
  go_enter Tryz.func95, Tryz.ntmps95
  replace HB := Aside0.mk (below_alloc HB.out (.cells #[] 83))
  go_wp2
  go_loopw [3, 4] (fun o i wr => ∃ (k : Nat), k ≤ 4 ∧ i = .int .i64 k ∧ Aside0 (kIt.R 83 wr w.heap.size okT o (countedN s k)) ∧ Aside0 (Below w.heap.size w wr)) (fun _ i _ => 4 - (intOf i).toNat)
  case atStart => exact ⟨0, Nat.zero_le _, rfl, HN, HB⟩
  case round =>
    clear HB HN
    obtain ⟨k, hk, rfl, HO, HB⟩ := hrel
    by_cases hlt : k < 4
    · have hlt' : (k : Int) < 4 := by omega
      go_wp2
      go_loopw [5, 15] (fun n i wr => ∃ (j : Nat), j ≤ s.length ∧ i = .int .i64 j ∧ n = .int .i64 (keyC (s.take j) (k : Int)) ∧ Aside0 (kIt.R 83 wr w.heap.size okT _ (countedN s k)) ∧ Aside0 (Below w.heap.size w wr)) (fun _ i _ => s.length - (intOf i).toNat)
      case atStart => exact ⟨0, Nat.zero_le _, rfl, by simp [keyC, sg], HO, HB⟩
      case round =>
        clear HO HB
        obtain ⟨j, hj, rfl, rfl, HO, HB⟩ := hrel
        by_cases hlt2 : j < s.length
        · obtain ⟨ad, x, e, HX, h0, h1, h2⟩ := rdIt HR.out HB.out hlt2
          cases e
          have HC := Aside0.mk (keyC_snoc HX.out (k : Int))
          have hc1 := keyC_abs (s.take j) (k : Int)
          have hc2 := massI_take s j
          have hx2 := massI_mem (List.mem_of_getElem? HX.out)
          go_upto_region 9 with fail
          refine name_world fun W hW => ?_
          have B0 : W.heap[wr.heap.size]? = some (.cells #[.int .i64 x.f0, .int .i64 x.f1, .int .i64 x.f2] 83 (0, 0)) := by rw [hW]; exact blk_new wr _
          have hb1 : Below wr.heap.size wr W := by rw [hW]; repeat (first | exact Below.refl _ _ | apply below_alloc | refine below_set ?_ (by simp))
          clear hW
          generalize hX : wr.heap.size = X at B0 ⊢
          replace HB := Aside0.mk (bthen HB.out hb1)
          replace HO := Aside0.mk (Kd.R_below HO.out hb1)
          have b0 : W.cell? ⟨X, 0, none⟩ = some (.int .i64 x.f0) := blk_cell B0 0
          have b2 : W.cell? ⟨X, 2, none⟩ = some (.int .i64 x.f2) := blk_cell B0 2
          clear h0 h1 h2 hb1 hX B0
          by_cases hd : x.f0 = (k : Int)
          · have hdb : (x.f0 == (k : Int)) = true := by simpa using hd
            have HD := Aside0.mk hd
            clear hd
            go_wp2
            go_roundw
            case rel => exact ⟨j + 1, by omega, by go_num, by rw [HC.out, if_pos HD.out], HO, HB⟩
            case measure => simp [intOf]; omega
          · have hdb : (x.f0 == (k : Int)) = false := by simpa using hd
            have HD := Aside0.mk hd
            clear hd
            go_wp2
            go_roundw
            case rel => exact ⟨j + 1, by omega, by go_num, by rw [HC.out, if_neg HD.out, Int.add_zero], HO, HB⟩
            case measure => simp [intOf]; omega
        · obtain rfl : j = s.length := by omega
          rw [List.take_length]
          have hws := HB.out.size
          have hcl := countedN_len s k
          have hcs := Aside0.mk (countedN_succ s k)
          cases hz : (keyC s (k : Int) == 0)
          · have HZ := Aside0.mk (show ¬ keyC s (k : Int) = 0 by simpa using hz)
            have hz2 : (keyC s (k : Int) != 0) = true := by rw [bne, hz]; rfl
            go_wp2_with (at_builtin; refine appIt (w0 := w) (base := w.heap.size) (xs := countedN s k) (ok := okT) rfl rfl rfl HO.out (fun _ _ => trivial) HB.out (by have := HB.out.size; omega) (by omega) ?_; intro v1 w1 hr1 hb1 hg1 ha1; have HO2 := Aside0.mk hr1; have HG_ := Aside0.mk hg1; replace HB := Aside0.mk hb1; clear hr1 hb1 hg1 ha1)
            go_roundw
            case rel => exact ⟨k + 1, by omega, by go_num, ⟨by rw [hcs.out, if_neg HZ.out]; exact HO2.out⟩, HB⟩
            case measure => simp [intOf]; omega
          · have HZ := Aside0.mk (show keyC s (k : Int) = 0 by simpa using hz)
            have hz2 : (keyC s (k : Int) != 0) = false := by rw [bne, hz]; rfl
            go_wp2
            go_roundw
            case rel => exact ⟨k + 1, by omega, by go_num, ⟨by rw [hcs.out, if_pos HZ.out, List.append_nil]; exact HO.out⟩, HB⟩
            case measure => simp [intOf]; omega
    · obtain rfl : k = 4 := by omega
      go_wp2
      go_ret
      exact RetR.mk HO.out HB.out
set_option maxRecDepth 100000 in
set_option maxHeartbeats 2000000 in
theorem impl_aggregate (v : Value) (s : List It) (kind : Int) (w : World) (h : Sl kIt w v s) (hm0 : massI s < 4611686018427387904) (hl1 : s.length ≤ 100000) : Calls Tryz.prog 72 #[v, .int .i64 kind] w (RetR kIt 83 w (aggL s kind)) := by
  have HS := Aside0.mk h
  by_cases h1 : kind = 1
  · subst h1
    have HB := Aside0.mk (Below.refl w.heap.size w)
    go_enter Tryz.func72, Tryz.ntmps72
    go_wp2_with (go_at_call 95; ((with_reducible refine (impl_counted _ s _ (HS.out.below HB.out) hm0 hl1).mono ?_); rintro e w' ⟨u, rfl, hr, hb⟩; have HF := Aside0.mk (Kd.R_lower hr HB.out.size); replace HB := Aside0.mk (bthen HB.out hb); clear hr hb))
    go_ret
    exact RetR.mk HF.out HB.out
  · by_cases h2 : kind = 2
    · subst h2
      have HB := Aside0.mk (Below.refl w.heap.size w)
      go_enter Tryz.func72, Tryz.ntmps72
      go_wp2_with (go_at_call 96; ((with_reducible refine (impl_once _ s _ (HS.out.below HB.out) hl1).mono ?_); rintro e w' ⟨u, rfl, hr, hb⟩; have HF := Aside0.mk (Kd.R_lower hr HB.out.size); replace HB := Aside0.mk (bthen HB.out hb); clear hr hb))
      go_ret
      exact RetR.mk HF.out HB.out
    · have q1 : (kind == 1) = false := by simp [h1]
      have q2 : (kind == 2) = false := by simp [h2]
      have HE := Aside0.mk (show aggL s kind = leastL s by unfold aggL; rw [if_neg h1, if_neg h2])
      have HB := Aside0.mk (Below.refl w.heap.size w)
      go_enter Tryz.func72, Tryz.ntmps72
      go_wp2_with (go_at_call 97; ((with_reducible refine (impl_leastOf _ s _ (HS.out.below HB.out) hl1).mono ?_); rintro e w' ⟨u, rfl, hr, hb⟩; have HF := Aside0.mk (Kd.R_lower hr HB.out.size); replace HB := Aside0.mk (bthen HB.out hb); clear hr hb))
      go_ret
      exact RetR.mk (by rw [HE.out]; exact HF.out) HB.out
end Go.Proofs.YthljcnlmeefcjaaGreat.X

