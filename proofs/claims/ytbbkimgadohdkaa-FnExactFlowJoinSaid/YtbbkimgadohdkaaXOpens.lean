/- What an exact law is handed, read off its data: structs of whole numbers, slices of them, slices of slices. Conditions: none. -/
import Derived.Test.YtbbkimgadohdkaaXBase
import Derived.Lib.SmallJoins
namespace Go.Proofs.Ytbbkimgadohdkaa.X
open Go.RowKit Go.ChangeShapes Go.WideShapes Go.WideElems Go.Deep Go.Proofs.YtbbkimgadohdkaaW.PrintWords
set_option linter.unusedVariables false
set_option linter.unusedSimpArgs false

/-- data of type t reads as a value of this kind -/
def Opens {α : Type} (t : TypeId) (d : Kd α) : Prop := ∀ (H : Type) (enc : TypeId × Value → H) (w : World) (base : Nat) (spare : Nat → Bool) (held : Bool) (fuel : Nat) (cs : List Value) (x : DataW H × List MemPlace),
  DataW.trod enc Try.prog w base spare held fuel t cs = some x → ∃ a : α, d.K w a cs
theorem cells1 : Try.prog.cellsOf 3 = 1 := by kernel_rfl
theorem opens_int {H : Type} {enc : TypeId × Value → H} {w : World} {base : Nat} {spare : Nat → Bool} {held : Bool} {fuel : Nat} {cs : List Value} {x : DataW H × List MemPlace}
    (h : DataW.trod enc Try.prog w base spare held fuel 3 cs = some x) : ∃ n, cs = [.int .i64 n] := by
  obtain ⟨n, h1, _, _⟩ := DataW.trod_int Try.underlying3 h
  exact ⟨n, h1⟩
theorem opens_slice {α : Type} {t e : TypeId} {d : Kd α} (ht : Try.prog.underlying t = some (.slice e)) (hc : Try.prog.cellsOf e = d.sz) (ho : Opens e d) : Opens t (Kd.slice e d) := by
  intro H enc w base spare held fuel cs x h
  rcases open_slice ht h with ⟨rfl, _⟩ | ⟨a, len, cap, m, n, D, Pl, rfl, _, hl, hm, hmm, _, hel⟩
  · exact ⟨[], none, 0, rfl, Nat.le_refl _, Kd.C_nil d w⟩
  · have hlm : len ≤ m := by rw [hmm]; split <;> omega
    have : ∀ i, ∃ xi : Option α, i < len → ∃ y, xi = some y ∧ ∃ cs', w.cells? base (a.add (i * Try.prog.cellsOf e)) (Try.prog.cellsOf e) = some cs' ∧ d.K w y cs' := fun i => by
      by_cases hi : i < len
      · obtain ⟨cs', h1, h2⟩ := hel i (by omega)
        obtain ⟨y, hy⟩ := ho _ _ _ _ _ _ _ _ _ h2
        exact ⟨some y, fun _ => ⟨y, rfl, cs', h1, hy⟩⟩
      · exact ⟨none, fun h => absurd h hi⟩
    let f : Nat → Option α := fun i => (this i).choose
    have hf : ∀ i, i < len → ∃ y, f i = some y ∧ ∃ cs', w.cells? base (a.add (i * Try.prog.cellsOf e)) (Try.prog.cellsOf e) = some cs' ∧ d.K w y cs' := fun i hi => (this i).choose_spec hi
    have hxs : ∀ l, l ≤ len → ∃ xs : List α, xs.length = l ∧ ∀ j, j < l → xs[j]? = f j := fun l => by
      induction l with
      | zero => exact fun _ => ⟨[], rfl, fun j h => by omega⟩
      | succ l ih =>
        intro hl'
        obtain ⟨xs, h1, h2⟩ := ih (by omega)
        obtain ⟨y, hy, _⟩ := hf l (by omega)
        refine ⟨xs ++ [y], by simp [h1], fun j hj => ?_⟩
        by_cases hjl : j < l
        · rw [List.getElem?_append_left (by omega)]; exact h2 j hjl
        · have : j = l := by omega
          subst this
          rw [List.getElem?_append_right (by omega), h1, Nat.sub_self, hy]; rfl
    obtain ⟨xs, h1, h2⟩ := hxs len (Nat.le_refl _)
    have hmx : maxLen = 9223372036854775807 := by decide
    have hmax : xs.length ≤ 9223372036854775807 := by omega
    refine ⟨xs, some a, cap, by rw [h1], by omega, rfl, hmax, fun _ => ⟨a, rfl, fun j p hj => ?_⟩⟩
    have hjl : j < len := by have := (List.getElem?_eq_some_iff.1 hj).1; omega
    obtain ⟨y, hy, cs', hcs, hK⟩ := hf j hjl
    have hp : p = y := by have := h2 j hjl; rw [hj, hy] at this; exact Option.some.inj this
    subst hp
    obtain ⟨_, hlen, hcell⟩ := World.cells?_some hcs
    refine ⟨cs', d.K_len hK, hK, fun i u hu => ?_⟩
    have hi : i < cs'.length := (List.getElem?_eq_some_iff.1 hu).1
    have := hcell i (by omega)
    rw [Go.Deep.add_add, hc] at this
    rw [this, hu]
/-- a slice that is an argument -/
theorem okWide_slice' {P : Program} {w : World} {r : Reach} {base : Nat} {t e : TypeId} {v : Value} (ht : P.underlying t = some (.slice e)) (h : Value.okWide P w r base t v) : ∃ a len cap, v = .slice a len cap := okWide_slice ht h
set_option maxRecDepth 100000 in
theorem arg_slice {α : Type} {H : Type} {enc : TypeId × Value → H} {w : World} {base b0 : Nat} {spare : Nat → Bool} {held : Bool} {r : Reach} {t e : TypeId} {d : Kd α} {v : Value} {x : DataW H} {p : List MemPlace} (ht : Try.prog.underlying t = some (.slice e)) (ho : Opens t (Kd.slice e d))
    (hv : Value.okWide Try.prog w r b0 t v) (h : DataW.Trod enc Try.prog w base spare held t v x p) : ∃ l, Sl d w v l := by
  obtain ⟨a, len, cap, rfl⟩ := okWide_slice' (P := Try.prog) ht hv
  obtain ⟨fuel, hf⟩ := h
  obtain ⟨l, A, c, h1, h2, h3⟩ := ho _ _ _ _ _ _ _ _ _ hf
  exact ⟨l, A, c, by simpa [Value.cells] using h1, h2, h3⟩
theorem inner_max {α : Type} {d : Kd α} {e : Nat} {w : World} {A : Option Addr} {n : Nat} {ls : List (List α)} (h : (Kd.slice e d).C w A n ls) : ∀ x ∈ ls, x.length ≤ 9223372036854775807 := by
  intro x hx
  obtain ⟨i, hi, rfl⟩ := List.getElem_of_mem hx
  obtain ⟨ad, _, hc⟩ := h.2.2 (by have := h.1; omega)
  obtain ⟨cs, _, ⟨A1, c1, _, _, h3⟩, _⟩ := hc i _ (List.getElem?_eq_getElem hi)
  exact h3.2.1
set_option maxRecDepth 100000 in
theorem cellsTm : Try.prog.cellsOf 82 = 2 := by kernel_rfl
set_option maxRecDepth 100000 in
theorem opens_Tm : Opens 82 kTm := by
  intro H enc w base spare held fuel cs x h
  obtain ⟨y0, y1, n, _, hl, h0, h1⟩ := trod_struct2 Try.underlying82 h
  simp only [cells1] at h0 h1
  rw [cellsTm] at hl
  obtain ⟨n0, e0⟩ := opens_int h0
  obtain ⟨n1, e1⟩ := opens_int h1
  match cs, hl with
  | [c0, c1], _ =>
    simp at e0 e1
    exact ⟨⟨n0, n1⟩, kTm_K.2 (by rw [e0, e1]; rfl)⟩
set_option maxRecDepth 100000 in
theorem cellsRw : Try.prog.cellsOf 84 = 5 := by kernel_rfl
set_option maxRecDepth 100000 in
theorem opens_Rw : Opens 84 kRw := by
  intro H enc w base spare held fuel cs x h
  obtain ⟨y0, y1, y2, y3, n, _, hl, h0, h1, h2, h3⟩ := Go.Joins.trod_struct4 Try.underlying84 h
  simp only [cells1, cellsTm] at h0 h1 h2 h3
  rw [cellsRw] at hl
  obtain ⟨n0, e0⟩ := opens_int h0
  obtain ⟨n1, e1⟩ := opens_int h1
  obtain ⟨t, e2⟩ := opens_Tm _ _ _ _ _ _ _ _ _ h2
  obtain ⟨n3, e3⟩ := opens_int h3
  match cs, hl with
  | [c0, c1, c2, c3, c4], _ =>
    rw [kTm_K] at e2
    simp [vTm] at e0 e1 e2 e3
    exact ⟨⟨n0, n1, t, n3⟩, kRw_K.2 (by rw [e0, e1, e2.1, e2.2, e3]; rfl)⟩
theorem opens_RwS : Opens 45 (Kd.slice 84 kRw) := opens_slice Try.underlying45 cellsRw opens_Rw
set_option maxRecDepth 100000 in
theorem arg_time {H : Type} {enc : TypeId × Value → H} {w : World} {base b0 : Nat} {spare : Nat → Bool} {held : Bool} {r : Reach} {v : Value} {x : DataW H} {p : List MemPlace}
    (hv : Value.okWide Try.prog w r b0 82 v) (h : DataW.Trod enc Try.prog w base spare held 82 v x p) : ∃ a b, v = .agg #[.int .i64 a, .int .i64 b] := by
  obtain ⟨v0, v1, y0, y1, n, rfl, _, _, h0, h1⟩ := Go.Joins.open_agg2 Try.underlying82 (by kernel_rfl) (by kernel_rfl) hv h
  obtain ⟨a, e⟩ := opens_int h0
  obtain ⟨b, e1⟩ := opens_int h1
  simp at e e1
  exact ⟨a, b, by rw [e, e1]⟩
end Go.Proofs.Ytbbkimgadohdkaa.X
