/- Conditions: none. -/
import Derived.Test.YtkdendlgaaimbaaYQPnK
import Derived.Test.YtkdendlgaaimbaaYQSb
import Derived.Test.YtkdendlgaaimbaaYQPlH
namespace Go.Proofs.Ytkdendlgaaimbaa.X
open Go.RowKit Go.Proofs.YtkdendlgaaimbaaW.PrintWords
set_option linter.unusedVariables false
set_option linter.unusedSimpArgs false
def kSi : Kd (List It) where
 sz := 1
 E := [118]
 K := (Kd.slice 118 kIt).K
 M := fun w base ok xs cs => ∃ A c Q, cs = [.slice A xs.length c] ∧ xs.length ≤ c ∧ Kd.F kIt w Q A xs.length xs ∧ ∀ k, Q k → ok k ∧ base ≤ k ∧ k < w.heap.size ∧ ∃ cells, w.heap[k]? = some (.cells cells 118 (0, 0))
 K_len := (Kd.slice 118 kIt).K_len
 K_one := (Kd.slice 118 kIt).K_one
 K_below := (Kd.slice 118 kIt).K_below
 K_of_M := by
  rintro w base ok xs cs ⟨A, c, Q, rfl, hc, hF, _⟩
  exact ⟨A, c, rfl, hc, Kd.F_now hF⟩
 M_mono := by
  rintro w base ok ok' xs cs h ⟨A, c, Q, rfl, hc, hF, hQ⟩
  exact ⟨A, c, Q, rfl, hc, hF, fun k hk => ⟨h k (hQ k hk).1, (hQ k hk).2⟩⟩
 M_bound := by
  rintro w base ok xs cs ⟨A, c, Q, rfl, hc, hF, hQ⟩
  refine ⟨A, c, Q, rfl, hc, hF, fun k hk => ?_⟩
  obtain ⟨h1, h2, h3, cells, h4⟩ := hQ k hk
  exact ⟨⟨h1, h2, h3, _, List.mem_singleton.2 rfl, cells, h4⟩, h2, h3, cells, h4⟩
 M_move := by
  rintro w w1 base ok xs cs hm ⟨A, c, Q, rfl, hc, hF, hQ⟩
  refine ⟨A, c, Q, rfl, hc, Kd.F_step hF (fun k hk _ => hm k (hQ k hk).1), fun k hk => ?_⟩
  obtain ⟨h1, h2, h3, cells, h4⟩ := hQ k hk
  have h5 := (hm k h1).trans h4
  exact ⟨h1, h2, (Array.getElem?_eq_some_iff.1 h5).1, cells, h5⟩
 M_lower := by
  rintro w base base' ok xs cs hb ⟨A, c, Q, rfl, hc, hF, hQ⟩
  exact ⟨A, c, Q, rfl, hc, hF, fun k hk => by obtain ⟨h1, h2, h3⟩ := hQ k hk; exact ⟨h1, Nat.le_trans hb h2, h3⟩⟩
theorem si_M {w : World} {base : Nat} {ok : Nat → Prop} {v : Value} {xs : List It} (h : kIt.R 118 w base ok v xs) : kSi.M w base ok xs [v] := by
 have hb := Kd.R_bound h
 obtain ⟨A, c, rfl, hc, _⟩ := Kd.R_reads h
 refine ⟨A, c, _, rfl, hc, fun W' hW => (Kd.R_reads' (Kd.R_step hb hW)).2.2, fun k hk => ?_⟩
 obtain ⟨h1, h2, h3, q, hq, cells, h4⟩ := hk
 have : q = 118 := by
  revert hq
  show q ∈ 118 :: [] → _
  intro hq
  exact List.mem_singleton.1 hq
 subst this
 exact ⟨h1, h2, h3, cells, h4⟩
def litm (ls : List (List It)) (k : Nat) : List It := ls.getD k []
def outP (a b : Int) (ks ins : List (List It)) : List It :=
 if a = 1 then litm ins b.toNat else if a = 2 then setEach (litm ks 0) b else if a = 3 then setBoth (litm ks 0) (litm ks 1) else if a = 4 then setLess (litm ks 0) else if a = 5 then setJoin (litm ks 0) (litm ks 1) else sumK (litm ks 0) b
def keepP (o : List It) : Option (List It) := if setOk o then some o else none
mutual
def setP (ins : List (List It)) : Pn → Option (List It)
 | ⟨a, b, ks⟩ => match setL ins ks with
  | none => none
  | some xs => keepP (outP a b xs ins)
def setL (ins : List (List It)) : List Pn → Option (List (List It))
 | [] => some []
 | x :: l => match setP ins x with
  | none => none
  | some y => match setL ins l with
   | none => none
   | some ys => some (y :: ys)
end
theorem setP_no {ins : List (List It)} {a b : Int} {ks : List Pn} (h : setL ins ks = none) : setP ins ⟨a, b, ks⟩ = none := by rw [setP, h]
theorem setP_yes {ins : List (List It)} {a b : Int} {ks : List Pn} {xs : List (List It)} (h : setL ins ks = some xs) : setP ins ⟨a, b, ks⟩ = keepP (outP a b xs ins) := by rw [setP, h]
theorem setL_app (ins : List (List It)) : ∀ (l m : List Pn), setL ins (l ++ m) = (setL ins l).bind fun xs => (setL ins m).map (xs ++ ·)
 | [], m => by rw [List.nil_append, setL]; cases setL ins m <;> rfl
 | x :: l, m => by
  rw [List.cons_append, setL, setL, setL_app ins l m]
  cases setP ins x with
  | none => rfl
  | some y => cases setL ins l with
   | none => rfl
   | some ys => cases setL ins m <;> rfl
theorem setL_one (ins : List (List It)) (x : Pn) : setL ins [x] = (setP ins x).map ([·]) := by
 rw [setL, setL]; cases setP ins x <;> rfl
theorem setL_len (ins : List (List It)) : ∀ (l : List Pn) (xs : List (List It)), setL ins l = some xs → xs.length = l.length
 | [], xs, h => by rw [setL] at h; cases h; rfl
 | x :: l, xs, h => by
  rw [setL] at h
  cases hx : setP ins x with
  | none => rw [hx] at h; cases h
  | some y =>
   rw [hx] at h
   cases hl : setL ins l with
   | none => rw [hl] at h; cases h
   | some ys => rw [hl] at h; cases h; rw [List.length_cons, List.length_cons, setL_len ins l ys hl]
theorem setL_next {ins : List (List It)} {l : List Pn} {k : Nat} {x : Pn} {acc : List (List It)} {y : List It} (hx : l[k]? = some x) (ha : setL ins (l.take k) = some acc) (hy : setP ins x = some y) : setL ins (l.take (k + 1)) = some (acc ++ [y]) := by
 rw [take_snoc hx, setL_app, ha, setL_one, hy]; rfl
theorem setL_stop {ins : List (List It)} {l : List Pn} {k : Nat} {x : Pn} (hx : l[k]? = some x) (hy : setP ins x = none) : setL ins l = none := by
 have h1 : l = l.take (k + 1) ++ l.drop (k + 1) := (List.take_append_drop _ _).symm
 rw [h1, take_snoc hx, List.append_assoc, setL_app, setL_app, setL_one, hy]
 cases setL ins (l.take k) <;> rfl
theorem setP_ok {ins : List (List It)} {x : Pn} {y : List It} (h : setP ins x = some y) : setOk y = true := by
 obtain ⟨a, b, ks⟩ := x
 rw [setP] at h
 cases hs : setL ins ks with
 | none => rw [hs] at h; cases h
 | some xs =>
  rw [hs] at h
  have h : keepP (outP a b xs ins) = some y := h
  unfold keepP at h
  split at h
  ·next e => cases h; exact e
  ·cases h
theorem setL_ok {ins : List (List It)} : ∀ (l : List Pn) (xs : List (List It)), setL ins l = some xs → ∀ y ∈ xs, setOk y = true
 | [], xs, h => by rw [setL] at h; cases h; simp
 | x :: l, xs, h => by
  rw [setL] at h
  cases hx : setP ins x with
  | none => rw [hx] at h; cases h
  | some y =>
   rw [hx] at h
   cases hl : setL ins l with
   | none => rw [hl] at h; cases h
   | some ys =>
    rw [hl] at h; cases h
    intro z hz
    rcases List.mem_cons.1 hz with rfl | hz
    ·exact setP_ok hx
    ·exact setL_ok l ys hl z hz
theorem litm_mem {xs : List (List It)} {k : Nat} (hk : k < xs.length) : litm xs k ∈ xs := by
 unfold litm; rw [List.getD_eq_getElem?_getD, List.getElem?_eq_getElem hk]; exact List.getElem_mem _
theorem litm_ok {ins : List (List It)} {l : List Pn} {xs : List (List It)} (h : setL ins l = some xs) {k : Nat} (hk : k < xs.length) : setOk (litm xs k) = true := setL_ok l xs h _ (litm_mem hk)
def PlS (w : World) (o : Option (List It)) (e : Ending) (w' : World) : Prop := ∃ v, e = .returned (.tuple #[v, .bool o.isSome]) ∧ (∀ l, o = some l → kIt.R 118 w' w.heap.size okT v l) ∧ Below w.heap.size w w'
theorem PlS.no {w w' : World} {o : Option (List It)} {v : Value} (h : o = none) (hb : Below w.heap.size w w') : PlS w o (.returned (.tuple #[v, .bool false])) w' := ⟨v, by rw [h]; rfl, fun l e => by (rw [h] at e; cases e), hb⟩
theorem PlS.keep {w w' : World} {o : Option (List It)} {v : Value} {l : List It} (h : o = keepP l) (hr : kIt.R 118 w' w.heap.size okT v l) (hb : Below w.heap.size w w') : PlS w o (.returned (.tuple #[v, .bool (setOk l)])) w' := by
 refine ⟨v, ?_, fun m e => ?_, hb⟩
 ·rw [h, keepP]; cases setOk l <;> rfl
 ·rw [h, keepP] at e
  cases hs : setOk l with
  | false => rw [hs] at e; cases e
  | true => rw [hs] at e; cases e; exact hr
theorem PlS.base {w0 w w' : World} {o : Option (List It)} {e : Ending} (h : PlS w o e w') (hb : Below w0.heap.size w0 w) : PlS w0 o e w' := by
 obtain ⟨v, he, hr, hb2⟩ := h
 exact ⟨v, he, fun l e => Kd.R_lower (hr l e) hb.size, bthen hb hb2⟩
theorem agg_sumK {s : List It} {kind : Int} (hs : setOk s = true) (k1 : 1 ≤ kind) (k3 : kind ≤ 3) : aggL s kind = sumK s kind := by
 unfold aggL sumK
 rw [if_pos hs]
 rcases (show kind = 1 ∨ kind = 2 ∨ kind = 3 by omega) with rfl | rfl | rfl
 ·rw [if_pos rfl, keysL_count]
 ·rw [if_neg (by decide), if_pos rfl, keysL_once hs]
 ·rw [if_neg (by decide), if_neg (by decide), keysL_least hs]
theorem mass_setOk {s : List It} (hs : setOk s = true) : massI s < 4611686018427387904 ∧ s.length ≤ 400 := by
 have h1 : s.length ≤ 400 := by unfold setOk at hs; rw [Bool.and_eq_true, decide_eq_true_eq] at hs; exact hs.1
 have h2 := massI_le (l := s) (c := 1099511627776) fun r hr => by have := sOk_of hs r hr; omega
 exact ⟨by omega, h1⟩
theorem Sl.of_Si {w : World} {base : Nat} {ok : Nat → Prop} {v : Value} {ls : List (List It)} (h : kSi.R 46 w base ok v ls) : Sl (Kd.slice 118 kIt) w v ls := by
 obtain ⟨A, c, rfl, h1, h2⟩ := Kd.R_reads h
 exact ⟨A, c, rfl, h1, h2⟩
theorem rdSet {w : World} {A : Option Addr} {m : Nat} {ls : List (List It)} (h : Kd.C (Kd.slice 118 kIt) w A m ls) {k : Nat} (hk : k < m) : ∃ ad B c, A = some ad ∧ w.cell? (ad.add k) = some (.slice B (litm ls k).length c) ∧ Sl kIt w (.slice B (litm ls k).length c) (litm ls k) := by
 obtain ⟨ad, c, e, _, hK, hc0⟩ := Kd.C_get h ([] : List It) (k : Int) (by omega) (by omega)
 rw [Int.toNat_natCast] at hK hc0
 have hc : ∀ j u, c[j]? = some u → w.cell? (ad.add (k * 1 + j)) = some u := hc0
 obtain ⟨B, c0, rfl, l0, g0⟩ := hK
 exact ⟨ad, B, c0, e, by have hq := hc 0 _ rfl; rwa [Nat.mul_one, Nat.add_zero] at hq, B, c0, rfl, l0, g0⟩
section
variable {ops : Array Oper} {o : Oper} {rest : List Oper} {a : Act} {Q : Exit → Act → World → Prop}
theorem appSet {W : World} {base : Nat} {s x : Operand} {xs : List (List It)} {y : List It} {u : Value} {ok okp : Nat → Prop} (hgd : o.guard = none)
  (ho : o.op = .call { callee := .builtin .append, args := #[s, x], argTypes := #[63, 63] })
  (hx : a.eval x = .slice (some ⟨W.heap.size, 0, none⟩) 1 1) (HO : kSi.R 46 W base ok (a.eval s) xs) (HM : kSi.M W base okp y [u]) (hokp : ∀ k, okp k → ok k ∧ some k ≠ (a.eval s).ownBlock) (hfresh : ∀ k, W.heap.size ≤ k → ok k) (hbase : base ≤ W.heap.size) (hl : xs.length < 3518437208000)
  (h : ∀ v1 w1, kSi.R 46 w1 base ok v1 (xs ++ [y]) → Below base W w1 → W.grownBy w1 (a.eval s).ownBlock → ((v1.ownBlock = (a.eval s).ownBlock) ∨ ∃ b, v1.ownBlock = some b ∧ W.heap.size ≤ b) → wpList Try.prog ops Q rest (a.put o.dst v1) w1) :
  wpList Try.prog ops Q (o :: rest) a (W.alloc (.cells #[u] 46)) :=
 Kd.R_append kSi (w0 := W) base hgd s x 63 46 (.slice none 0 0) 24 ho Try.underlying63 infoItS rfl (by decide) (by omega) _ xs y [u] ok okp rfl hx HM hokp hfresh HO (Below.refl _ _) hbase (by omega) h
end
end Go.Proofs.Ytkdendlgaaimbaa.X
