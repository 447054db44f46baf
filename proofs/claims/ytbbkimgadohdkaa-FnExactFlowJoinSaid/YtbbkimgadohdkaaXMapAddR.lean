/- Maps whose keys are times, and rows: what a key reads as. Conditions: none. -/
import Derived.Test.YtbbkimgadohdkaaXMapAdd
namespace Go.Proofs.Ytbbkimgadohdkaa.X
open Go.RowKit Go.WideElems Go.MapKept Go.ChangeMaps Go.ChangeShapes Go.WideShapes Go.Proofs.YtbbkimgadohdkaaW.PrintWords
open Go.WideMaps (KeyLaw)
open Go.Maps (Keyed)
set_option linter.unusedVariables false
set_option linter.unusedSimpArgs false

set_option maxRecDepth 100000 in
theorem typesPos2 : ∃ m, Try.prog.types.size = m + 1 + 1 := ⟨Try.prog.types.size - 2, by kernel_rfl⟩
theorem cellsTmI : Try.prog.cellsOf 53 = 2 := by kernel_rfl
theorem cellsIntI : Try.prog.cellsOf 3 = 1 := by kernel_rfl
set_option maxRecDepth 100000 in
theorem lawTm : KeyLaw Try.prog 53 := deep_law_laid laidOut (m := 2) (by omega) (of_decide_eq_true (by kernel_rfl)) (by kernel_rfl) (by rw [Try.underlying53])
def litTm (a b : Int) : Lit := .string (keyBytes [.int .i64 a, .int .i64 b])
set_option maxRecDepth 100000 in
theorem keyLitsTm {m : Nat} {a b : Int} (ha : (Lit.int .i64 a).wf = true) (hb : (Lit.int .i64 b).wf = true) : Try.prog.keyLits (m + 1 + 1) 53 [.int .i64 a, .int .i64 b] = some [.int .i64 a, .int .i64 b] := by
  unfold Program.keyLits
  rw [Try.underlying53]
  simp [cellsTmI, cellsIntI, keyLits_int_mk ha, keyLits_int_mk hb]
set_option maxRecDepth 100000 in
theorem keyLitsTm_inv {m : Nat} {cl : List Value} {ls : List Lit} (hl : Try.prog.keyLits (m + 1 + 1) 53 cl = some ls) : ∃ a b, cl = [.int .i64 a, .int .i64 b] ∧ ls = [.int .i64 a, .int .i64 b] ∧ (Lit.int .i64 a).wf = true ∧ (Lit.int .i64 b).wf = true := by
  unfold Program.keyLits at hl
  rw [Try.underlying53] at hl
  simp [cellsTmI, cellsIntI] at hl
  obtain ⟨hlen, hl⟩ := hl
  match cl, hlen with
  | [c0, c1], _ =>
    simp at hl
    cases e0 : Try.prog.keyLits (m + 1) 3 [c0] with
    | none => rw [e0] at hl; simp at hl
    | some l0 =>
      cases e1 : Try.prog.keyLits (m + 1) 3 [c1] with
      | none => rw [e0, e1] at hl; simp at hl
      | some l1 =>
        rw [e0, e1] at hl
        obtain ⟨n0, g0, rfl, w0⟩ := keyLits_int e0
        obtain ⟨n1, g1, rfl, w1⟩ := keyLits_int e1
        simp at hl g0 g1
        subst g0 g1 hl
        exact ⟨n0, n1, rfl, rfl, w0, w1⟩
set_option maxRecDepth 100000 in
theorem keyTm {a b : Int} (ha : (Lit.int .i64 a).wf = true) (hb : (Lit.int .i64 b).wf = true) : keyOf Try.prog 53 (.agg #[.int .i64 a, .int .i64 b]) = some (litTm a b) := by
  have hk : Try.prog.keyType 53 = true := by kernel_rfl
  have hf : (Value.agg #[.int .i64 a, .int .i64 b]).formed Try.prog 53 = true := by simp [Value.formed, Try.underlying53, cellsTmI]
  obtain ⟨m, hm⟩ := typesPos
  have hl := keyLitsTm (m := m) ha hb
  rw [← hm] at hl
  unfold keyOf
  rw [Try.underlying53]
  simp only [hk, hf, Bool.and_self, if_true]
  rw [show (Value.agg #[.int .i64 a, .int .i64 b]).cells.toList = [.int .i64 a, .int .i64 b] from rfl, hl]
  rfl
set_option maxRecDepth 100000 in
theorem keyTm_inv {v : Value} {kl : Lit} (h : keyOf Try.prog 53 v = some kl) : ∃ x : Tm, v = .agg #[.int .i64 x.f0, .int .i64 x.f1] ∧ kl = litTm x.f0 x.f1 ∧ (Lit.int .i64 x.f0).wf = true ∧ (Lit.int .i64 x.f1).wf = true := by
  unfold keyOf at h
  rw [Try.underlying53] at h
  simp only at h
  split at h
  · rename_i hc
    obtain ⟨m, hm⟩ := typesPos
    obtain ⟨ls, hl, rfl⟩ := Option.map_eq_some_iff.1 h
    have hf : v.formed Try.prog 53 = true := by simp only [Bool.and_eq_true] at hc; exact hc.2
    obtain ⟨cs, rfl⟩ : ∃ cs, v = .agg cs := by
      cases v <;> simp [Value.formed, Try.underlying53] at hf
      exact ⟨_, rfl⟩
    rw [hm] at hl
    obtain ⟨a, b, h1, h2, h3, h4⟩ := keyLitsTm_inv hl
    obtain ⟨cl⟩ := cs
    simp [Value.cells] at h1
    subst h1 h2
    exact ⟨⟨a, b⟩, rfl, rfl, h3, h4⟩
  · cases h
theorem cellsRwI : Try.prog.cellsOf 56 = 5 := by kernel_rfl
set_option maxRecDepth 100000 in
theorem lawRw : KeyLaw Try.prog 56 := deep_law_laid laidOut (m := 3) (by omega) (of_decide_eq_true (by kernel_rfl)) (by kernel_rfl) (by rw [Try.underlying56])
def litRw (a b c d e : Int) : Lit := .string (keyBytes [.int .i64 a, .int .i64 b, .int .i64 c, .int .i64 d, .int .i64 e])
set_option maxRecDepth 100000 in
theorem keyLitsRw {m : Nat} {a b c d e : Int} (ha : (Lit.int .i64 a).wf = true) (hb : (Lit.int .i64 b).wf = true) (hc : (Lit.int .i64 c).wf = true) (hd : (Lit.int .i64 d).wf = true) (he : (Lit.int .i64 e).wf = true) :
    Try.prog.keyLits (m + 1 + 1 + 1) 56 [.int .i64 a, .int .i64 b, .int .i64 c, .int .i64 d, .int .i64 e] = some [.int .i64 a, .int .i64 b, .int .i64 c, .int .i64 d, .int .i64 e] := by
  unfold Program.keyLits
  rw [Try.underlying56]
  simp [cellsRwI, cellsTmI, cellsIntI, keyLits_int_mk ha, keyLits_int_mk hb, keyLitsTm hc hd, keyLits_int_mk he]
set_option maxRecDepth 100000 in
theorem keyRw {a b c d e : Int} (ha : (Lit.int .i64 a).wf = true) (hb : (Lit.int .i64 b).wf = true) (hc : (Lit.int .i64 c).wf = true) (hd : (Lit.int .i64 d).wf = true) (he : (Lit.int .i64 e).wf = true) :
    keyOf Try.prog 56 (.agg #[.int .i64 a, .int .i64 b, .int .i64 c, .int .i64 d, .int .i64 e]) = some (litRw a b c d e) := by
  have hk : Try.prog.keyType 56 = true := by kernel_rfl
  have hf : (Value.agg #[.int .i64 a, .int .i64 b, .int .i64 c, .int .i64 d, .int .i64 e]).formed Try.prog 56 = true := by simp [Value.formed, Try.underlying56, cellsRwI]
  obtain ⟨m, hm⟩ := typesPos2
  have hl := keyLitsRw (m := m) ha hb hc hd he
  rw [← hm] at hl
  unfold keyOf
  rw [Try.underlying56]
  simp only [hk, hf, Bool.and_self, if_true]
  rw [show (Value.agg #[.int .i64 a, .int .i64 b, .int .i64 c, .int .i64 d, .int .i64 e]).cells.toList = [.int .i64 a, .int .i64 b, .int .i64 c, .int .i64 d, .int .i64 e] from rfl, hl]
  rfl
set_option maxRecDepth 100000 in
theorem keyRw_inv {v : Value} {kl : Lit} (h : keyOf Try.prog 56 v = some kl) : ∃ x : Rw, v = .agg #[.int .i64 x.f0, .int .i64 x.f1, .int .i64 x.f2.f0, .int .i64 x.f2.f1, .int .i64 x.f3] ∧ kl = litRw x.f0 x.f1 x.f2.f0 x.f2.f1 x.f3 ∧
    (Lit.int .i64 x.f0).wf = true ∧ (Lit.int .i64 x.f1).wf = true ∧ (Lit.int .i64 x.f2.f0).wf = true ∧ (Lit.int .i64 x.f2.f1).wf = true ∧ (Lit.int .i64 x.f3).wf = true := by
  unfold keyOf at h
  rw [Try.underlying56] at h
  simp only at h
  split at h
  · rename_i hc
    obtain ⟨m, hm⟩ := typesPos2
    obtain ⟨ls, hl, rfl⟩ := Option.map_eq_some_iff.1 h
    have hf : v.formed Try.prog 56 = true := by simp only [Bool.and_eq_true] at hc; exact hc.2
    obtain ⟨cs, rfl⟩ : ∃ cs, v = .agg cs := by
      cases v <;> simp [Value.formed, Try.underlying56] at hf
      exact ⟨_, rfl⟩
    rw [hm] at hl
    unfold Program.keyLits at hl
    rw [Try.underlying56] at hl
    obtain ⟨cl⟩ := cs
    simp [Value.cells, cellsRwI, cellsTmI, cellsIntI] at hl
    obtain ⟨hlen, hl⟩ := hl
    match cl, hlen with
    | [c0, c1, c2, c3, c4], _ =>
      simp at hl
      cases e0 : Try.prog.keyLits (m + 1 + 1) 3 [c0] with
      | none => rw [e0] at hl; simp at hl
      | some l0 =>
        cases e1 : Try.prog.keyLits (m + 1 + 1) 3 [c1] with
        | none => rw [e0, e1] at hl; simp at hl
        | some l1 =>
          cases e2 : Try.prog.keyLits (m + 1 + 1) 53 [c2, c3] with
          | none => rw [e0, e1, e2] at hl; simp at hl
          | some l2 =>
            cases e3 : Try.prog.keyLits (m + 1 + 1) 3 [c4] with
            | none => rw [e0, e1, e2, e3] at hl; simp at hl
            | some l3 =>
              rw [e0, e1, e2, e3] at hl
              obtain ⟨n0, g0, rfl, w0⟩ := keyLits_int e0
              obtain ⟨n1, g1, rfl, w1⟩ := keyLits_int e1
              obtain ⟨n2, n3, g2, rfl, w2, w3⟩ := keyLitsTm_inv e2
              obtain ⟨n4, g4, rfl, w4⟩ := keyLits_int e3
              simp at hl g0 g1 g2 g4
              obtain ⟨g2, g3⟩ := g2
              subst g0 g1 g2 g3 g4 hl
              exact ⟨⟨n0, n1, ⟨n2, n3⟩, n4⟩, rfl, rfl, w0, w1, w2, w3, w4⟩
  · cases h
end Go.Proofs.Ytbbkimgadohdkaa.X
