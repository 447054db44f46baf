/- What holds of collections: pairs of unions, of what is taken away, of none. Plain lemmas. Conditions: few copies. -/
import Derived.Test.YtlmglffdmoklcaaXPl
namespace Go.Proofs.Ytlmglffdmoklcaa.X
open Go.RowKit
set_option linter.unusedVariables false
set_option linter.unusedSimpArgs false

/-- items in bounds of keys and values, of which there are few copies -/
structure Few (c : Int) (n : Nat) (l : List It) : Prop where
  mass : massI l ≤ c
  len : l.length ≤ n
  key : ∀ x ∈ l, keyOk x
theorem Few.of {c : Int} {n : Nat} {l : List It} (h : setOk l = true) (hm : massI l ≤ c) (hn : l.length ≤ n) : Few c n l := ⟨hm, hn, fun x hx => ((setOk_canon h).2.1 x hx).1⟩
theorem Few.append {c d : Int} {n m : Nat} {l k : List It} (h : Few c n l) (g : Few d m k) : Few (c + d) (n + m) (l ++ k) :=
  ⟨by rw [massI_append]; have := h.mass; have := g.mass; omega, by rw [List.length_append]; have := h.len; have := g.len; omega, fun x hx => (List.mem_append.1 hx).elim (h.key x) (g.key x)⟩
theorem Few.items {c : Int} {n : Nat} {l : List It} (h : Few c n l) (hc : c ≤ 1000000) : Few c n (items l) := by
  have h1 := items_mass (l := l) (by have := h.mass; omega)
  have h2 := items_length l
  refine ⟨by have := h.mass; omega, by have := h.len; omega, fun y hy => ?_⟩
  obtain ⟨x, hx, e0, e1⟩ := items_from y hy
  have := h.key x hx
  unfold keyOk at this ⊢; omega
theorem Few.ok {c : Int} {n : Nat} {l : List It} (h : Few c n l) (hc : c ≤ 1000000) (hn : n ≤ 400) : setOk (X.items l) = true := setOk_items h.key (by have := h.mass; omega) (by have := h.len; omega)
theorem Few.pairs {c d : Int} {n m : Nat} {s t : List It} (h : Few c n s) (g : Few d m t) (hc : c ≤ 1000) (hd : d ≤ 1000) : Few (c * d) (m * n) (X.pairs s t) := by
  have h0 := massI_nonneg s
  have h1 := massI_nonneg t
  have hm := h.mass
  have gm := g.mass
  have hb : massI s * massI t ≤ c * d := Int.mul_le_mul hm gm h1 (by omega)
  have hcd : c * d ≤ 1000 * 1000 := Int.mul_le_mul hc hd (by omega) (by omega)
  refine ⟨Int.le_trans (mass_pairs (Int.le_refl _) (by omega)) hb, Nat.le_trans (len_pairs s t) (Nat.mul_le_mul g.len h.len), key_pairs h.key g.key⟩
theorem Few.each {c : Int} {n : Nat} {s : List It} (h : Few c n s) (how : Int) : Few c n (s.flatMap (eachI how)) := ⟨Int.le_trans (mass_each how s) h.mass, Nat.le_trans (len_each how s) h.len, key_each h.key⟩
theorem mul_small {s t : List It} {c d : Int} (h : massI s ≤ c) (g : massI t ≤ d) (hc : c ≤ 1000) (hd : d ≤ 1000) : massI s * massI t ≤ 1000000 := by
  have h0 := massI_nonneg s
  have h1 := massI_nonneg t
  have := Int.mul_le_mul (show massI s ≤ 1000 by omega) (show massI t ≤ 1000 by omega) h1 (by omega)
  omega
/-- a sum of sums -/
theorem items_items {l m : List It} (h : massI l ≤ 2000000) (g : massI m ≤ 2000000) : items (items l ++ items m) = items (l ++ m) := by
  have h1 := items_mass (l := l) (by omega)
  have h2 := items_mass (l := m) (by omega)
  refine items_eq (by rw [massI_append]; omega) (by rw [massI_append]; omega) (fun ψ => ?_)
  rw [sh_append, sh_append, items_sh (by omega), items_sh (by omega)]
/-- pairs of a union and a third -/
theorem join_both {s u t : List It} {c : Int} (hs : massI s ≤ c) (hu : massI u ≤ c) (ht : massI t ≤ c) (hc : c ≤ 500) : items (pairs (items (s ++ u)) t) = items (items (pairs s t) ++ items (pairs u t)) := by
  have m1 : massI (s ++ u) ≤ 1000 := by rw [massI_append]; omega
  have m2 := items_mass (l := s ++ u) (by omega)
  have p1 := mul_small (c := 1000) (d := 1000) (show massI (items (s ++ u)) ≤ 1000 by omega) (show massI t ≤ 1000 by omega) (by omega) (by omega)
  have p2 := mul_small (c := 1000) (d := 1000) (show massI s ≤ 1000 by omega) (show massI t ≤ 1000 by omega) (by omega) (by omega)
  have p3 := mul_small (c := 1000) (d := 1000) (show massI u ≤ 1000 by omega) (show massI t ≤ 1000 by omega) (by omega) (by omega)
  have q1 := mass_pairs (c := 1000000) p1 (by omega)
  have q2 := mass_pairs (c := 1000000) p2 (by omega)
  have q3 := mass_pairs (c := 1000000) p3 (by omega)
  rw [items_items (by omega) (by omega)]
  refine items_eq (by omega) (by rw [massI_append]; omega) (fun ψ => ?_)
  rw [sh_append, sh_pairs p1 (by omega), sh_pairs p2 (by omega), sh_pairs p3 (by omega), items_sh (by omega), sh_append]
theorem join_both2 {s u t : List It} {c : Int} (hs : massI s ≤ c) (hu : massI u ≤ c) (ht : massI t ≤ c) (hc : c ≤ 500) : items (pairs s (items (t ++ u))) = items (items (pairs s t) ++ items (pairs s u)) := by
  have m1 : massI (t ++ u) ≤ 1000 := by rw [massI_append]; omega
  have m2 := items_mass (l := t ++ u) (by omega)
  have p1 := mul_small (c := 1000) (d := 1000) (show massI s ≤ 1000 by omega) (show massI (items (t ++ u)) ≤ 1000 by omega) (by omega) (by omega)
  have p2 := mul_small (c := 1000) (d := 1000) (show massI s ≤ 1000 by omega) (show massI t ≤ 1000 by omega) (by omega) (by omega)
  have p3 := mul_small (c := 1000) (d := 1000) (show massI s ≤ 1000 by omega) (show massI u ≤ 1000 by omega) (by omega) (by omega)
  have q1 := mass_pairs (c := 1000000) p1 (by omega)
  have q2 := mass_pairs (c := 1000000) p2 (by omega)
  have q3 := mass_pairs (c := 1000000) p3 (by omega)
  rw [items_items (by omega) (by omega)]
  refine items_eq (by omega) (by rw [massI_append]; omega) (fun ψ => ?_)
  rw [sh_append, sh_pairs2 p1 (by omega), sh_pairs2 p2 (by omega), sh_pairs2 p3 (by omega), items_sh (by omega), sh_append]
/-- FnSetJoin, told plainly -/
theorem setJoin_both {s t u : List It} (hs : setOk s = true) (ht : setOk t = true) (hu : setOk u = true) (ms : massI s ≤ 30) (mt : massI t ≤ 30) (mu : massI u ≤ 30) (ls : s.length ≤ 9) (lt : t.length ≤ 9) (lu : u.length ≤ 9) :
    setJoin (setBoth s u) t = setBoth (setJoin s t) (setJoin u t) ∧ setJoin s (setBoth t u) = setBoth (setJoin s t) (setJoin s u) := by
  have fs := Few.of hs ms ls
  have ft := Few.of ht mt lt
  have fu := Few.of hu mu lu
  have o1 := (fs.append fu).ok (by omega) (by omega)
  have o2 := (ft.append fu).ok (by omega) (by omega)
  have j1 := (fs.pairs ft (by omega) (by omega)).ok (by omega) (by omega)
  have j2 := (fu.pairs ft (by omega) (by omega)).ok (by omega) (by omega)
  have j3 := (fs.pairs fu (by omega) (by omega)).ok (by omega) (by omega)
  unfold setJoin setBoth
  simp only [hs, ht, hu, o1, o2, j1, j2, j3, Bool.and_self, if_true]
  exact ⟨join_both ms mu mt (by omega), join_both2 ms mu mt (by omega)⟩
/-- FnSetJoinKeys, told plainly -/
theorem setJoin_keys {s t : List It} : ∀ x ∈ setJoin s t, (s.any fun y => y.f0 == x.f0) = true ∧ (t.any fun y => y.f0 == x.f0) = true := fun x hx => by
  unfold setJoin at hx
  split at hx
  · obtain ⟨z, hz, e0, e1⟩ := items_from x hx
    obtain ⟨a, ha, hz⟩ := List.mem_flatMap.1 hz
    obtain ⟨b, hb, rfl⟩ := List.mem_map.1 hz
    obtain ⟨hb, he⟩ := List.mem_filter.1 hb
    have he := of_decide_eq_true he
    simp only [pairI] at e0
    exact ⟨List.any_eq_true.2 ⟨a, ha, by simpa using e0⟩, List.any_eq_true.2 ⟨b, hb, by simpa using he.symm.trans e0⟩⟩
  · cases hx
theorem setJoin_nil (s : List It) : setJoin s [] = [] := by
  have : pairs s [] = [] := by unfold pairs; induction s with | nil => rfl | cons x s ih => rw [List.flatMap_cons, ih]; rfl
  unfold setJoin; rw [this]; split <;> rfl
theorem setJoin_nil2 (t : List It) : setJoin [] t = [] := by unfold setJoin; split <;> rfl
end Go.Proofs.Ytlmglffdmoklcaa.X
