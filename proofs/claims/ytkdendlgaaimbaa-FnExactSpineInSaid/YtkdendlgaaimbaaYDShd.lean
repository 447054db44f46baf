/- Conditions: none. -/
import Derived.Test.YtkdendlgaaimbaaYDSpC
namespace Go.Proofs.Ytkdendlgaaimbaa.X
open Go.RowKit Go.Proofs.YtkdendlgaaimbaaW.PrintWords
set_option linter.unusedVariables false
set_option linter.unusedSimpArgs false
def kSh : Kd (List Rw) where
 sz := 1
 E := [102]
 K := (Kd.slice 102 kRw).K
 M := fun w base ok xs cs => ∃ A c Q, cs = [.slice A xs.length c] ∧ xs.length ≤ c ∧ Kd.F kRw w Q A xs.length xs ∧ ∀ k, Q k → ok k ∧ base ≤ k ∧ k < w.heap.size ∧ ∃ cells, w.heap[k]? = some (.cells cells 102 (0, 0))
 K_len := (Kd.slice 102 kRw).K_len
 K_one := (Kd.slice 102 kRw).K_one
 K_below := (Kd.slice 102 kRw).K_below
 K_of_M := by
  rintro w base ok xs cs ⟨A, c, Q, rfl, hc, hF, _⟩
  exact ⟨A, c, rfl, hc, Kd.F_now hF⟩
 M_mono := by
  rintro w base ok ok' xs cs h ⟨A, c, Q, rfl, hc, hF, hQ⟩
  exact ⟨A, c, Q, rfl, hc, hF, fun k hk => ⟨h k (hQ k hk).1, (hQ k hk).2⟩⟩
 M_bound := by
  rintro w base ok xs cs ⟨A, c, Q, rfl, hc, hF, hQ⟩
  refine ⟨A, c, Q, rfl, hc, hF, fun k hk => ?_⟩
  obtain ⟨h1, h2, h3, cells, h4⟩ := hQ k hk
  exact ⟨⟨h1, h2, h3, _, List.mem_singleton.2 rfl, cells, h4⟩, h2, h3, cells, h4⟩
 M_move := by
  rintro w w1 base ok xs cs hm ⟨A, c, Q, rfl, hc, hF, hQ⟩
  refine ⟨A, c, Q, rfl, hc, Kd.F_step hF (fun k hk _ => hm k (hQ k hk).1), fun k hk => ?_⟩
  obtain ⟨h1, h2, h3, cells, h4⟩ := hQ k hk
  have h5 := (hm k h1).trans h4
  exact ⟨h1, h2, (Array.getElem?_eq_some_iff.1 h5).1, cells, h5⟩
 M_lower := by
  rintro w base base' ok xs cs hb ⟨A, c, Q, rfl, hc, hF, hQ⟩
  exact ⟨A, c, Q, rfl, hc, hF, fun k hk => by obtain ⟨h1, h2, h3⟩ := hQ k hk; exact ⟨h1, Nat.le_trans hb h2, h3⟩⟩
theorem sh_M {w : World} {base : Nat} {ok : Nat → Prop} {v : Value} {xs : List Rw} (h : kRw.R 102 w base ok v xs) : kSh.M w base ok xs [v] := by
 have hb := Kd.R_bound h
 obtain ⟨A, c, rfl, hc, _⟩ := Kd.R_reads h
 refine ⟨A, c, _, rfl, hc, fun W' hW => (Kd.R_reads' (Kd.R_step hb hW)).2.2, fun k hk => ?_⟩
 obtain ⟨h1, h2, h3, q, hq, cells, h4⟩ := hk
 have : q = 102 := by
  revert hq
  show q ∈ 102 :: [] → _
  intro hq
  exact List.mem_singleton.1 hq
 subst this
 exact ⟨h1, h2, h3, cells, h4⟩
theorem sh_R {w : World} {base : Nat} {ok : Nat → Prop} {v : Value} {ls : List (List Rw)} (h : Kd.S (Kd.slice 102 kRw) 27 w base ok v ls) : kSh.R 27 w base ok v ls := by
 obtain ⟨h1, h2⟩ := Kd.S_R h
 refine ⟨h1, h2.imp_ fun xs cs hM => ?_⟩
 obtain ⟨u, rfl, hu⟩ := hM
 exact sh_M hu
def SpT (w' : World) (base : Nat) (ok : Nat → Prop) (a b : Value) (ls : List (List Rw)) (f : List Tm) : Prop := kSh.R 27 w' base ok a ls ∧ kTm.R 43 w' base ok b f
theorem SpO.t {w : World} {base : Nat} {a b : Value} {ls : List (List Rw)} {f : List Tm} (h : SpO w base a b ls f) : SpT w base okT a b ls f := ⟨sh_R h.1, h.2⟩
theorem Sl.of_Sh {w : World} {base : Nat} {ok : Nat → Prop} {v : Value} {ls : List (List Rw)} (h : kSh.R 27 w base ok v ls) : Sl (Kd.slice 102 kRw) w v ls := by
 obtain ⟨A, c, rfl, h1, h2⟩ := Kd.R_reads h
 exact ⟨A, c, rfl, h1, h2⟩
theorem SpT.s {w : World} {base : Nat} {ok : Nat → Prop} {a b : Value} {ls : List (List Rw)} {f : List Tm} (h : SpT w base ok a b ls f) : SpS w a b ls f := ⟨Sl.of_Sh h.1, Sl.of_R h.2⟩
theorem SpT.below {w w' : World} {base : Nat} {ok : Nat → Prop} {a b : Value} {ls : List (List Rw)} {f : List Tm} (h : SpT w base ok a b ls f) (hb : Below w.heap.size w w') : SpT w' base ok a b ls f := ⟨Kd.R_below h.1 hb, Kd.R_below h.2 hb⟩
theorem SpT.lower {w : World} {base base' : Nat} {ok : Nat → Prop} {a b : Value} {ls : List (List Rw)} {f : List Tm} (h : SpT w base ok a b ls f) (hb : base' ≤ base) : SpT w base' ok a b ls f := ⟨Kd.R_lower h.1 hb, Kd.R_lower h.2 hb⟩
def SpU (w : World) (ls : List (List Rw)) (f : List Tm) (r : Bool) (e : Ending) (w' : World) : Prop := ∃ a b : Value, e = .returned (.tuple #[.agg #[a, b], .bool r]) ∧ SpT w' w.heap.size okT a b ls f ∧ Below w.heap.size w w'
theorem rr_take {α : Type} {R : α → List Value → Prop} {size : Nat} {w : World} {A : Option Addr} {n : Nat} {ps : List α} (h : ReadsRow R size w A n ps) {m : Nat} (hm : m ≤ n) : ReadsRow R size w A m (ps.take m) := by
 obtain ⟨h1, h2, h3⟩ := h
 refine ⟨by rw [List.length_take]; omega, by omega, fun h0 => ?_⟩
 obtain ⟨ad, e, hc⟩ := h3 (by omega)
 refine ⟨ad, e, fun j p hj => hc j p ?_⟩
 rw [List.getElem?_take] at hj
 split at hj
 ·exact hj
 ·cases hj
theorem rr_drop {α : Type} {R : α → List Value → Prop} {size : Nat} {w : World} {A : Option Addr} {n c : Nat} {ps : List α} (h : ReadsRow R size w A n ps) {m : Nat} (hm : m ≤ n) (hnc : n ≤ c) : ReadsRow R size w (if c = m then A else A.map (·.add (m * size))) (n - m) (ps.drop m) := by
 obtain ⟨h1, h2, h3⟩ := h
 refine ⟨by rw [List.length_drop]; omega, by omega, fun h0 => ?_⟩
 obtain ⟨ad, e, hc⟩ := h3 (by omega)
 subst e
 rw [if_neg (by omega)]
 refine ⟨_, rfl, fun j p hj => ?_⟩
 rw [List.getElem?_drop] at hj
 obtain ⟨c', g1, g2, g3⟩ := hc (m + j) p hj
 refine ⟨c', g1, g2, fun i u hu => ?_⟩
 have := g3 i u hu
 rw [Go.Deep.add_add, ← Nat.add_assoc, ← Nat.add_mul]
 exact this
theorem shRead {w W : World} {base : Nat} {ok : Nat → Prop} {A : Option Addr} {n c : Nat} {ls : List (List Rw)} (h : kSh.R 27 w base ok (.slice A n c) ls) (hb : Below w.heap.size w W) : ReadsRow (kSh.M W base (fun q => q < w.heap.size)) 1 W A n ls := by
 obtain ⟨h0, inner, ho, hr⟩ := Kd.R_bound h
 obtain ⟨A', c', e, _, hR⟩ := OwnRow.reads ⟨inner, ho, hr⟩
 cases e
 exact hR.imp_ hb (fun p cs hp => kSh.M_below (kSh.M_mono (fun q hq => hq.1.2.2.1) hp) hb)
section
variable {ops : Array Oper} {o : Oper} {a : Act} {Q : Exit → Act → World → Prop} {Kc : Act → World → Prop}
theorem stepLay {W : World} {base N0 : Nat} {s x : Operand} {xs ys : List (List Rw)} {ok : Nat → Prop} {A : Option Addr} {m c : Nat} (hw : Region.wanted o (yielded ops a.tmps) = true)
  (ho : o.op = .call { callee := .builtin .append, args := #[s, x], argTypes := #[23, 23] })
  (hx : a.eval x = .slice A m c) (HO : kSh.R 27 W base ok (a.eval s) xs) (HR : ReadsRow (kSh.M W base (fun q => q < N0)) 1 W A m ys) (hown : ∀ q, (a.eval s).ownBlock = some q → N0 ≤ q) (hN : N0 ≤ W.heap.size) (hok : ∀ q, q < N0 → ok q) (hfresh : ∀ k, W.heap.size ≤ k → ok k) (hbase : base ≤ W.heap.size) (hl : xs.length + m < 3518437208000)
  (h : ∀ v1 w1, kSh.R 27 w1 base ok v1 (xs ++ ys) → Below N0 W w1 → (∀ q, v1.ownBlock = some q → N0 ≤ q) → W.grownBy w1 (a.eval s).ownBlock → Kc (a.put o.dst v1) w1) :
  if Region.wanted o (yielded ops a.tmps) = true then Oper.wp Try.prog o a W Kc Q else Kc (a.put o.dst undef) W :=
 Kd.R_append_rows_step kSh (w0 := W) base hw s x 23 27 (.slice none 0 0) 24 ho underRwSS infoRwS rfl (by decide) (by omega) _ xs ys A m c ok (fun q => q < N0) rfl hx HO HR (fun _ _ hp => hp) (fun q hq => ⟨hok q hq, fun e => by have := hown q e.symm; omega⟩) hfresh (Below.refl _ _) hbase (by omega)
  (fun v1 w1 h1 h2 h3 h4 => h v1 w1 h1 ((Below.refl N0 W).grown h3 hN (fun k hk => hown k hk)) (fun q hq => by
   rcases h4 with h4 | ⟨b, h4, h5⟩
   ·rw [h4] at hq; exact hown q hq
   ·rw [h4] at hq; have := Option.some.inj hq; omega) h3)
end
section
variable {ops : Array Oper} {rest : List Oper} {o : Oper} {a : Act} {Q : Exit → Act → World → Prop}
theorem appLay {W : World} {base N0 : Nat} {s x : Operand} {xs : List (List Rw)} {y : List Rw} {u : Value} {ok : Nat → Prop} (hgd : o.guard = none)
  (ho : o.op = .call { callee := .builtin .append, args := #[s, x], argTypes := #[23, 23] })
  (hx : a.eval x = .slice (some ⟨W.heap.size, 0, none⟩) 1 1) (HO : kSh.R 27 W base ok (a.eval s) xs) (HM : kSh.M W base (fun q => q < N0) y [u]) (hown : ∀ q, (a.eval s).ownBlock = some q → N0 ≤ q) (hN : N0 ≤ W.heap.size) (hok : ∀ q, q < N0 → ok q) (hfresh : ∀ k, W.heap.size ≤ k → ok k) (hbase : base ≤ W.heap.size) (hl : xs.length < 3518437208000)
  (h : ∀ v1 w1, kSh.R 27 w1 base ok v1 (xs ++ [y]) → Below N0 W w1 → (∀ q, v1.ownBlock = some q → N0 ≤ q) → W.grownBy w1 (a.eval s).ownBlock → wpList Try.prog ops Q rest (a.put o.dst v1) w1) :
  wpList Try.prog ops Q (o :: rest) a (W.alloc (.cells #[u] 27)) :=
 Kd.R_append kSh (w0 := W) base hgd s x 23 27 (.slice none 0 0) 24 ho underRwSS infoRwS rfl (by decide) (by omega) _ xs y [u] ok (fun q => q < N0) rfl hx HM (fun q hq => ⟨hok q hq, fun e => by have := hown q e.symm; omega⟩) hfresh HO (Below.refl _ _) hbase (by omega)
  (fun v1 w1 h1 h2 h3 h4 => h v1 w1 h1 ((Below.refl N0 W).grown h3 hN (fun k hk => hown k hk)) (fun q hq => by
   rcases h4 with h4 | ⟨b, h4, h5⟩
   ·rw [h4] at hq; exact hown q hq
   ·rw [h4] at hq; have := Option.some.inj hq; omega) h3)
end
section
variable {ops : Array Oper} {o : Oper} {a : Act} {Q : Exit → Act → World → Prop} {Kc : Act → World → Prop}
theorem stepLay1 {W : World} {base : Nat} {s x : Operand} {xs : List (List Rw)} {y : List Rw} {u : Value} {ok okp : Nat → Prop} (hw : Region.wanted o (yielded ops a.tmps) = true)
  (ho : o.op = .call { callee := .builtin .append, args := #[s, x], argTypes := #[23, 23] })
  (hx : a.eval x = .slice (some ⟨W.heap.size, 0, none⟩) 1 1) (HO : kSh.R 27 W base ok (a.eval s) xs) (HM : kSh.M W base okp y [u]) (hokp : ∀ k, okp k → ok k ∧ some k ≠ (a.eval s).ownBlock) (hfresh : ∀ k, W.heap.size ≤ k → ok k) (hbase : base ≤ W.heap.size) (hl : xs.length < 3518437208000)
  (h : ∀ v1 w1, kSh.R 27 w1 base ok v1 (xs ++ [y]) → Below base W w1 → W.grownBy w1 (a.eval s).ownBlock → Kc (a.put o.dst v1) w1) :
  if Region.wanted o (yielded ops a.tmps) = true then Oper.wp Try.prog o a (W.alloc (.cells #[u] 27)) Kc Q else Kc (a.put o.dst undef) (W.alloc (.cells #[u] 27)) :=
 Kd.R_append_step kSh (w0 := W) base hw s x 23 27 (.slice none 0 0) 24 ho underRwSS infoRwS rfl (by decide) (by omega) _ xs y [u] ok okp rfl hx HM hokp hfresh HO (Below.refl _ _) hbase (by omega) (fun v1 w1 h1 h2 h3 _ => h v1 w1 h1 h2 h3)
end
end Go.Proofs.Ytkdendlgaaimbaa.X
