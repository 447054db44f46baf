/- A plan that a law is handed, read off its data. Conditions: none. -/
import Derived.Test.YtffibnbnabppjaaDoorXPn
import Derived.Test.YtffibnbnabppjaaDoorXBs
namespace Go.Proofs.YtffibnbnabppjaaDoor.X
open Go.RowKit Go.ChangeShapes Go.WideShapes Go.WideElems Go.Deep Go.Proofs.YtffibnbnabppjaaDoorW.PrintWords
set_option linter.unusedVariables false
set_option linter.unusedSimpArgs false

theorem open_list {α : Type} {d : Kd α} {w : World} {base : Nat} {a : Addr} {len cap : Nat} (hl : len ≤ cap) (hm : cap ≤ maxLen) (this : ∀ i, i < len → ∃ y, ∃ cs', w.cells? base (a.add (i * d.sz)) d.sz = some cs' ∧ d.K w y cs') : ∃ xs : List α, xs.length = len ∧ d.C w (some a) len xs := by
  have this2 : ∀ i, ∃ xi : Option α, i < len → ∃ y, xi = some y ∧ ∃ cs', w.cells? base (a.add (i * d.sz)) d.sz = some cs' ∧ d.K w y cs' := fun i => by
    by_cases hi : i < len
    · obtain ⟨y, cs', h1, h2⟩ := this i hi
      exact ⟨some y, fun _ => ⟨y, rfl, cs', h1, h2⟩⟩
    · exact ⟨none, fun h => absurd h hi⟩
  let f : Nat → Option α := fun i => (this2 i).choose
  have hf : ∀ i, i < len → ∃ y, f i = some y ∧ ∃ cs', w.cells? base (a.add (i * d.sz)) d.sz = some cs' ∧ d.K w y cs' := fun i hi => (this2 i).choose_spec hi
  have hxs : ∀ l, l ≤ len → ∃ xs : List α, xs.length = l ∧ ∀ j, j < l → xs[j]? = f j := fun l => by
    induction l with
    | zero => exact fun _ => ⟨[], rfl, fun j h => by omega⟩
    | succ l ih =>
      intro hl'
      obtain ⟨xs, h1, h2⟩ := ih (by omega)
      obtain ⟨y, hy, _⟩ := hf l (by omega)
      refine ⟨xs ++ [y], by simp [h1], fun j hj => ?_⟩
      by_cases hjl : j < l
      · rw [List.getElem?_append_left (by omega)]; exact h2 j hjl
      · have : j = l := by omega
        subst this
        rw [List.getElem?_append_right (by omega), h1, Nat.sub_self, hy]; rfl
  obtain ⟨xs, h1, h2⟩ := hxs len (Nat.le_refl _)
  have hmx : maxLen = 9223372036854775807 := by decide
  refine ⟨xs, h1, h1, by omega, fun _ => ⟨a, rfl, fun j p hj => ?_⟩⟩
  have hjl : j < len := by have := (List.getElem?_eq_some_iff.1 hj).1; omega
  obtain ⟨y, hy, cs', hcs, hK⟩ := hf j hjl
  have hp : p = y := by have := h2 j hjl; rw [hj, hy] at this; exact Option.some.inj this
  subst hp
  obtain ⟨_, hlen, hcell⟩ := World.cells?_some hcs
  refine ⟨cs', d.K_len hK, hK, fun i u hu => ?_⟩
  have hi : i < cs'.length := (List.getElem?_eq_some_iff.1 hu).1
  have := hcell i (by omega)
  rw [Go.Deep.add_add] at this
  rw [this, hu]
set_option maxRecDepth 100000 in
theorem cellsPn : Tryd.prog.cellsOf 24 = 3 := by kernel_rfl
set_option maxRecDepth 100000 in
theorem cellsPnS : Tryd.prog.cellsOf 22 = 1 := by kernel_rfl
theorem pnK {w : World} {x : Pn} {A : Option Addr} {c : Nat} (hc : x.f2.length ≤ c) (h : kPn.C w A x.f2.length x.f2) : kPn.K w x [.int .i64 x.f0, .int .i64 x.f1, .slice A x.f2.length c] := by
  obtain ⟨n2, q2⟩ := Kd.fix_C_back PPlP.mono29 h
  exact ⟨n2 + 1, ⟨[.int .i64 x.f0], [.int .i64 x.f1, .slice A x.f2.length c], rfl, rfl, ⟨[.int .i64 x.f1], [.slice A x.f2.length c], rfl, rfl, ⟨A, c, rfl, hc, q2⟩⟩⟩⟩
theorem opens_kids {H : Type} {enc : TypeId × Value → H} {w : World} {base : Nat} {spare : Nat → Bool} {held : Bool} {N : Nat}
    (ih : ∀ (fuel : Nat) (cs : List Value) (x : DataW H × List MemPlace), DataW.trod enc Tryd.prog w base spare held fuel 24 cs = some x → SizeOf.sizeOf x.1 < N → ∃ a : Pn, kPn.K w a cs) (fuel : Nat) (v : Value) (x : DataW H × List MemPlace)
    (h : DataW.trod enc Tryd.prog w base spare held fuel 22 [v] = some x) (hs : SizeOf.sizeOf x.1 < N) : ∃ l A c, v = .slice A l.length c ∧ l.length ≤ c ∧ kPn.C w A l.length l := by
  rcases open_slice Tryd.underlying22 h with ⟨e, _⟩ | ⟨a, len, cap, m, n, D, Pl, e, _, hl, hm, hmm, hx, hel⟩
  · exact ⟨[], none, 0, by simpa using e, Nat.le_refl _, Kd.C_nil _ _⟩
  · have hlm : len ≤ m := by rw [hmm]; split <;> omega
    obtain ⟨l, h1, h2⟩ := open_list (d := kPn) (w := w) (base := base) (a := a) hl hm (fun i hi => by
      obtain ⟨cs', h1, h2⟩ := hel i (by omega)
      rw [cellsPn] at h1
      obtain ⟨y, hy⟩ := ih _ _ _ h2 (by
        have hmem : D i ∈ (List.range len).map D := List.mem_map.2 ⟨i, List.mem_range.2 hi, rfl⟩
        have h3 := List.sizeOf_lt_of_mem hmem
        rw [hx] at hs
        simp only [DataW.slice.sizeOf_spec] at hs
        show SizeOf.sizeOf (D i) < N
        omega)
      exact ⟨y, cs', h1, hy⟩)
    refine ⟨l, some a, cap, by rw [h1]; simpa using e, by omega, by rw [h1]; exact h2⟩
theorem opens_Pn_n {H : Type} {enc : TypeId × Value → H} {w : World} {base : Nat} {spare : Nat → Bool} {held : Bool} : ∀ (N fuel : Nat) (cs : List Value) (x : DataW H × List MemPlace), DataW.trod enc Tryd.prog w base spare held fuel 24 cs = some x → SizeOf.sizeOf x.1 < N → ∃ a : Pn, kPn.K w a cs := by
  intro N
  induction N with
  | zero => intro fuel cs x h hs; omega
  | succ N ih =>
    intro fuel cs x h hs
    obtain ⟨y0, y1, y2, n, hx, hl, h0, h1, h2⟩ := trod_struct3 Tryd.underlying24 h
    simp only [cells1, cellsPnS] at h0 h1 h2
    rw [cellsPn] at hl
    obtain ⟨n0, e0⟩ := opens_int h0
    obtain ⟨n1, e1⟩ := opens_int h1
    match cs, hl with
    | [c0, c1, c2], _ =>
      simp at e0 e1
      obtain ⟨l, A, c, e2, hc, hr⟩ := opens_kids ih n c2 y2 (by simpa using h2) (by
        rw [hx] at hs
        simp only [DataW.agg.sizeOf_spec, List.cons.sizeOf_spec] at hs
        omega)
      exact ⟨⟨n0, n1, l⟩, by rw [e0, e1, e2]; exact pnK (x := ⟨n0, n1, l⟩) hc hr⟩
set_option maxRecDepth 100000 in
theorem arg_plan {H : Type} {enc : TypeId × Value → H} {w : World} {base b0 : Nat} {spare : Nat → Bool} {held : Bool} {r : Reach} {v : Value} {x : DataW H} {p : List MemPlace}
    (hv : Value.okWide Tryd.prog w r b0 24 v) (h : DataW.Trod enc Tryd.prog w base spare held 24 v x p) : ∃ (y : Pn) (A : Option Addr) (c : Nat), v = .agg #[.int .i64 y.f0, .int .i64 y.f1, .slice A y.f2.length c] ∧ y.f2.length ≤ c ∧ kPn.C w A y.f2.length y.f2 := by
  obtain ⟨v0, v1, v2, y0, y1, y2, n, rfl, _, _, h0, h1, h2⟩ := Go.Joins.open_agg3 Tryd.underlying24 (by kernel_rfl) (by kernel_rfl) hv h
  obtain ⟨n0, e0⟩ := opens_int h0
  obtain ⟨n1, e1⟩ := opens_int h1
  obtain ⟨l, A, c, e2, hc, hr⟩ := opens_kids (fun fuel cs x h hs => opens_Pn_n (SizeOf.sizeOf x.1 + 1) fuel cs x h (by omega)) n v2 y2 h2 (Nat.lt_succ_self _)
  simp at e0 e1
  exact ⟨⟨n0, n1, l⟩, A, c, by rw [e0, e1, e2], hc, hr⟩
end Go.Proofs.YtffibnbnabppjaaDoor.X
