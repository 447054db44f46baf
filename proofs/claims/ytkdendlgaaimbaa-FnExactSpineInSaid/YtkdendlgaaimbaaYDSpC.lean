/- Conditions: none. -/
import Derived.Test.YtkdendlgaaimbaaYDSpPx0
import Derived.Test.YtkdendlgaaimbaaYDSpPx1
import Derived.Test.YtkdendlgaaimbaaYDSpPx3
import Derived.Test.YtkdendlgaaimbaaYDSpPx4
import Derived.Test.YtkdendlgaaimbaaYDSpPx5
import Derived.Test.YtkdendlgaaimbaaYCBs
import Derived.Test.YtkdendlgaaimbaaYDBs
import Derived.Test.YtkdendlgaaimbaaYDSpPl
namespace Go.Proofs.Ytkdendlgaaimbaa.X
open Go.RowKit Go.Proofs.Ytkdendlgaaimbaa.PSpP Go.Proofs.YtkdendlgaaimbaaW.PrintWords
set_option linter.unusedVariables false
set_option linter.unusedSimpArgs false
theorem covers_eq {f : List Tm} {t : Tm} (hf : frontOk f = true) (ht : tOk t = true) : covers f t = beyond f t := by
 unfold covers beyond
 rw [hf, Bool.true_and]
 have h := frontOk_all hf
 clear hf
 induction f with
 | nil => rfl
 | cons a f ih =>
  rw [List.any_cons, List.any_cons, ih (fun s hs => h s (by simp [hs]))]
  unfold tLess
  rw [h a (by simp), ht]
  simp
theorem spineCopy_l (ls : List (List Rw)) (f : List Tm) (hl : ls.length ≤ 1048576) (hls : ∀ y ∈ ls, y.length ≤ 1048576) : ∀ n i : Nat, i + n = ls.length → Ev (fun k => impl_spineCopy.l0 k ls ls.length i (ls.take i) f) (ls, f) := by
 intro n
 induction n with
 | zero =>
  intro i hi
  refine Ev.succ (Ev.all fun k => ?_)
  simp only [impl_spineCopy.l0]
  rw [if_neg (by omega), List.take_of_length_le (by omega)]
 | succ n ih =>
  intro i hi
  have hi' : i < ls.length := by omega
  have hs := getD_some hi' ([] : List Rw)
  have hm := hls _ (List.mem_of_getElem? hs)
  have ht : ls.take (i + 1) = ls.take i ++ [ls.getD i []] := by rw [List.take_add_one, hs]; rfl
  refine Ev.succ (Ev.of (ih (i + 1) (by omega)) fun k => ?_)
  simp only [impl_spineCopy.l0, impl_rowsCopy.f]
  rw [if_pos (by omega), if_pos (by omega), if_pos (by omega), wnext (m := ls.length) (by omega) (by omega), ht]
  show ((if (ls.getD i []).length < 7036874416000 then some (ls.getD i []) else none).bind _) = _
  rw [if_pos (by omega), Option.bind_some, if_pos (by rw [List.length_take]; omega)]
theorem l12Copy_l (ls : List (List Rw)) (f : List Tm) (hl : ls.length ≤ 1048576) (hls : ∀ y ∈ ls, y.length ≤ 1048576) : ∀ n i : Nat, i + n = ls.length → Ev (fun k => spec_l12Copy.l0 k i ls f (ls.take i) f) (ls, f) := by
 intro n
 induction n with
 | zero =>
  intro i hi
  refine Ev.succ (Ev.all fun k => ?_)
  simp only [spec_l12Copy.l0]
  rw [if_neg (by omega), List.take_of_length_le (by omega)]
 | succ n ih =>
  intro i hi
  have hi' : i < ls.length := by omega
  have hs := getD_some hi' ([] : List Rw)
  have hm := hls _ (List.mem_of_getElem? hs)
  have ht : ls.take (i + 1) = ls.take i ++ [ls.getD i []] := by rw [List.take_add_one, hs]; rfl
  refine Ev.succ (Ev.of (ih (i + 1) (by omega)) fun k => ?_)
  simp only [spec_l12Copy.l0, Option.bind_some]
  rw [if_pos (by omega), if_pos (by omega), wnext (m := ls.length) (by omega) (by omega), ht]
  show (if 0 + (ls.getD i []).length < 3518437208883 then _ else none) = _
  rw [if_pos (by omega), if_pos (by rw [List.length_take]; omega)]
  rfl
theorem spineCopy_e (ls : List (List Rw)) (f : List Tm) (hl : ls.length ≤ 1048576) (hls : ∀ y ∈ ls, y.length ≤ 1048576) (hf : f.length ≤ 1048576) : Ev (fun k => impl_spineCopy.f k ls f) (ls, f) := by
 simp only [impl_spineCopy.f, impl_timesCopy.f]
 rw [if_pos (show f.length < 7036874416000 by omega)]
 simp only [Option.bind_some]
 have := spineCopy_l ls f hl hls ls.length 0 (by omega)
 simpa using this
theorem l12Copy_e (ls : List (List Rw)) (f : List Tm) (hl : ls.length ≤ 1048576) (hls : ∀ y ∈ ls, y.length ≤ 1048576) (hf : f.length ≤ 1048576) : Ev (fun k => spec_l12Copy.f k ls f) (ls, f) := by
 simp only [spec_l12Copy.f, Option.bind_some, List.nil_append, List.length_nil, Nat.zero_add]
 simp only [if_pos (show f.length < 8796093022208 by omega)]
 have := l12Copy_l ls f hl hls ls.length 0 (by omega)
 simpa using this
structure SpB (ls : List (List Rw)) (f : List Tm) : Prop where
 l : ls.length ≤ 1048576
 ls : ∀ y ∈ ls, y.length ≤ 1048576
 f : f.length ≤ 1048576
theorem SpOk.b {ls : List (List Rw)} {f : List Tm} (h : SpOk ls f) (hf : f.length ≤ 1048576) : SpB ls f := ⟨by have := h.few; omega, fun y hy => by have := (rowsOk_all (batchOk_rows (h.lay y hy))).1; omega, hf⟩
def SpO (w' : World) (base : Nat) (a b : Value) (ls : List (List Rw)) (f : List Tm) : Prop := Kd.S (Kd.slice 102 kRw) 27 w' base okT a ls ∧ kTm.R 43 w' base okT b f
def SpS (w : World) (a b : Value) (ls : List (List Rw)) (f : List Tm) : Prop := Sl (Kd.slice 102 kRw) w a ls ∧ Sl kTm w b f
theorem SpO.s {w : World} {base : Nat} {a b : Value} {ls : List (List Rw)} {f : List Tm} (h : SpO w base a b ls f) : SpS w a b ls f := by
 obtain ⟨A, c, rfl, h1, h2⟩ := Kd.S_reads h.1
 exact ⟨⟨A, c, rfl, h1, h2⟩, Sl.of_R h.2⟩
theorem SpS.below {w w' : World} {a b : Value} {ls : List (List Rw)} {f : List Tm} (h : SpS w a b ls f) (hb : Below w.heap.size w w') : SpS w' a b ls f := ⟨h.1.below hb, h.2.below hb⟩
def SpP (w : World) (ls : List (List Rw)) (f : List Tm) (e : Ending) (w' : World) : Prop := ∃ a b : Value, e = .returned (.agg #[a, b]) ∧ SpO w' w.heap.size a b ls f ∧ Below w.heap.size w w'
def SpQ (w : World) (ls : List (List Rw)) (f : List Tm) (r : Bool) (e : Ending) (w' : World) : Prop := ∃ a b : Value, e = .returned (.tuple #[.agg #[a, b], .bool r]) ∧ SpO w' w.heap.size a b ls f ∧ Below w.heap.size w w'
theorem impl_spineCopy (u v : Value) (ls : List (List Rw)) (f : List Tm) (w : World) (h : SpS w u v ls f) (hb : SpB ls f) : Calls Try.prog 73 #[.agg #[u, v]] w (SpP w ls f) := by
 obtain ⟨⟨A, c, rfl, hc, hr⟩, A2, c2, rfl, hc2, hr2⟩ := h
 obtain ⟨k, hk⟩ := (spineCopy_e ls f hb.l hb.ls hb.f).get
 refine (impl_spineCopy.calls k A c ls A2 c2 f ls f w hr hc hr2 hc2 hk).mono ?_
 rintro e w' ⟨a, b, rfl, h1, h2, h3⟩
 exact ⟨a, b, rfl, ⟨h1, h2⟩, h3⟩
theorem spec_l12Copy (u v : Value) (ls : List (List Rw)) (f : List Tm) (w : World) (h : SpS w u v ls f) (hb : SpB ls f) : Calls Try.prog 84 #[.agg #[u, v]] w (SpP w ls f) := by
 obtain ⟨⟨A, c, rfl, hc, hr⟩, A2, c2, rfl, hc2, hr2⟩ := h
 obtain ⟨k, hk⟩ := (l12Copy_e ls f hb.l hb.ls hb.f).get
 refine (spec_l12Copy.calls k A c ls A2 c2 f ls f w hr hc hr2 hc2 hk).mono ?_
 rintro e w' ⟨a, b, rfl, h1, h2, h3⟩
 exact ⟨a, b, rfl, ⟨h1, h2⟩, h3⟩
end Go.Proofs.Ytkdendlgaaimbaa.X
