/- The contracts of the spine's functions that the print walks: what they answer, in this work's words. Conditions: few layers, few rows, few times. -/
import Derived.Test.YthljcnlmeefcjaaYVSpPx0
import Derived.Test.YthljcnlmeefcjaaYVSpPx2
import Derived.Test.YthljcnlmeefcjaaYVSpPx3
import Derived.Test.YthljcnlmeefcjaaYVSpPx4
import Derived.Test.YthljcnlmeefcjaaYVSpPx6
import Derived.Test.YthljcnlmeefcjaaYCBs
import Derived.Test.YthljcnlmeefcjaaYVBs
import Derived.Test.YthljcnlmeefcjaaYVSpPl
namespace Go.Proofs.Ythljcnlmeefcjaa.X
open Go.RowKit Go.Proofs.Ythljcnlmeefcjaa.PSpP Go.Proofs.YthljcnlmeefcjaaW.PrintWords
set_option linter.unusedVariables false
set_option linter.unusedSimpArgs false

theorem covers_eq {f : List Tm} {t : Tm} (hf : frontOk f = true) (ht : tOk t = true) : covers f t = beyond f t := by
  unfold covers beyond
  rw [hf, Bool.true_and]
  have h := frontOk_all hf
  clear hf
  induction f with
  | nil => rfl
  | cons a f ih =>
    rw [List.any_cons, List.any_cons, ih (fun s hs => h s (by simp [hs]))]
    unfold tLess
    rw [h a (by simp), ht]
    simp
theorem spineCopy_l (ls : List (List Rw)) (f : List Tm) (hl : ls.length ≤ 1048576) (hls : ∀ y ∈ ls, y.length ≤ 1048576) : ∀ n i : Nat, i + n = ls.length → Ev (fun k => impl_spineCopy.l0 k ls ls.length i (ls.take i) f) (ls, f) := by
  intro n
  induction n with
  | zero =>
    intro i hi
    refine Ev.succ (Ev.all fun k => ?_)
    simp only [impl_spineCopy.l0]
    rw [if_neg (by omega), List.take_of_length_le (by omega)]
  | succ n ih =>
    intro i hi
    have hi' : i < ls.length := by omega
    have hs := getD_some hi' ([] : List Rw)
    have hm := hls _ (List.mem_of_getElem? hs)
    have ht : ls.take (i + 1) = ls.take i ++ [ls.getD i []] := by rw [List.take_add_one, hs]; rfl
    refine Ev.succ (Ev.of (ih (i + 1) (by omega)) fun k => ?_)
    simp only [impl_spineCopy.l0, impl_rowsCopy.f]
    rw [if_pos (by omega), if_pos (by omega), if_pos (by omega), wnext (m := ls.length) (by omega) (by omega), ht]
    show ((if (ls.getD i []).length < 7036874416000 then some (ls.getD i []) else none).bind _) = _
    rw [if_pos (by omega), Option.bind_some, if_pos (by rw [List.length_take]; omega)]
theorem l12Copy_l (ls : List (List Rw)) (f : List Tm) (hl : ls.length ≤ 1048576) (hls : ∀ y ∈ ls, y.length ≤ 1048576) : ∀ n i : Nat, i + n = ls.length → Ev (fun k => spec_l12Copy.l0 k i ls f (ls.take i) f) (ls, f) := by
  intro n
  induction n with
  | zero =>
    intro i hi
    refine Ev.succ (Ev.all fun k => ?_)
    simp only [spec_l12Copy.l0]
    rw [if_neg (by omega), List.take_of_length_le (by omega)]
  | succ n ih =>
    intro i hi
    have hi' : i < ls.length := by omega
    have hs := getD_some hi' ([] : List Rw)
    have hm := hls _ (List.mem_of_getElem? hs)
    have ht : ls.take (i + 1) = ls.take i ++ [ls.getD i []] := by rw [List.take_add_one, hs]; rfl
    refine Ev.succ (Ev.of (ih (i + 1) (by omega)) fun k => ?_)
    simp only [spec_l12Copy.l0, Option.bind_some]
    rw [if_pos (by omega), if_pos (by omega), wnext (m := ls.length) (by omega) (by omega), ht]
    show (if 0 + (ls.getD i []).length < 3518437208883 then _ else none) = _
    rw [if_pos (by omega), if_pos (by rw [List.length_take]; omega)]
    rfl
theorem spineCopy_e (ls : List (List Rw)) (f : List Tm) (hl : ls.length ≤ 1048576) (hls : ∀ y ∈ ls, y.length ≤ 1048576) (hf : f.length ≤ 1048576) : Ev (fun k => impl_spineCopy.f k ls f) (ls, f) := by
  simp only [impl_spineCopy.f, impl_timesCopy.f]
  rw [if_pos (show f.length < 7036874416000 by omega)]
  simp only [Option.bind_some]
  have := spineCopy_l ls f hl hls ls.length 0 (by omega)
  simpa using this
theorem l12Copy_e (ls : List (List Rw)) (f : List Tm) (hl : ls.length ≤ 1048576) (hls : ∀ y ∈ ls, y.length ≤ 1048576) (hf : f.length ≤ 1048576) : Ev (fun k => spec_l12Copy.f k ls f) (ls, f) := by
  simp only [spec_l12Copy.f, Option.bind_some, List.nil_append, List.length_nil, Nat.zero_add]
  simp only [if_pos (show f.length < 8796093022208 by omega)]
  have := l12Copy_l ls f hl hls ls.length 0 (by omega)
  simpa using this
theorem rdTm_at (l : List Tm) (i : Nat) (h : i < l.length) : l.drop i = rd_T79 l (i : Int) :: l.drop (i + 1) := by
  rw [getD_drop h z79]; simp [rd_T79]
def sinceR (ls : List (List Rw)) (f l : List Tm) (b : Bool) : List (List Rw) × List Tm × Bool := if b = true then (ls, l, true) else ([], [], false)
theorem iSince_l (ls : List (List Rw)) (f l : List Tm) (hl : ls.length ≤ 1048576) (hls : ∀ y ∈ ls, y.length ≤ 1048576) (hf : f.length ≤ 1048576) (hll : l.length ≤ 1048576) : ∀ n i : Nat, i + n = l.length → Ev (fun k => impl_SpineSince.l0 k l l l.length i ls f) (sinceR ls f l ((l.drop i).all (askOk f))) := by
  intro n
  induction n with
  | zero =>
    intro i hi
    refine Ev.succ ?_
    rw [List.drop_eq_nil_of_le (by omega)]
    refine Ev.of (f := fun k => (impl_spineCopy.f k ls f).bind fun bt => (some (bt.1, l, true) : Option (List (List Rw) × List Tm × Bool))) (Ev.bind (spineCopy_e ls f hl hls hf) (Ev.pure _)) fun k => ?_
    simp only [impl_SpineSince.l0, impl_timesCopy.f]
    rw [if_neg (by omega), if_pos (show l.length < 7036874416000 by omega)]
    rfl
  | succ n ih =>
    intro i hi
    have H := ih (i + 1) (by omega)
    rw [rdTm_at l i (by omega), List.all_cons]
    refine Ev.succ ?_
    cases hb : askOk f (rd_T79 l (i : Int)) with
    | true =>
      rw [Bool.true_and]
      refine Ev.of H fun k => ?_
      simp only [impl_SpineSince.l0, impl_beyond.f, Option.bind_some]
      rw [if_pos (by omega), if_pos (by omega), if_pos (by omega), wnext (m := l.length) (by omega) (by omega)]
      unfold askOk at hb
      cases f with
      | nil => simp
      | cons a f => rw [if_pos (by simp), if_pos (by simpa using hb)]
    | false =>
      rw [Bool.false_and]
      refine Ev.all fun k => ?_
      simp only [impl_SpineSince.l0, impl_beyond.f, Option.bind_some]
      rw [if_pos (by omega), if_pos (by omega), if_pos (by omega)]
      unfold askOk at hb
      cases f with
      | nil => simp at hb
      | cons a f => rw [if_pos (by simp), if_neg (by simpa using hb)]; rfl
theorem sSince_l (ls : List (List Rw)) (f l : List Tm) (hl : ls.length ≤ 1048576) (hls : ∀ y ∈ ls, y.length ≤ 1048576) (hf : f.length ≤ 1048576) (hll : l.length ≤ 1048576) (hfr : frontOk f = true) (hlo : ∀ t ∈ l, tOk t = true) : ∀ n i : Nat, i + n = l.length → Ev (fun k => spec_SpineSince.l0 k l i ls f) (sinceR ls f l ((l.drop i).all (askOk f))) := by
  intro n
  induction n with
  | zero =>
    intro i hi
    refine Ev.succ ?_
    rw [List.drop_eq_nil_of_le (by omega)]
    refine Ev.of (f := fun k => (spec_l12Copy.f k ls f).bind fun bt => (some (bt.1, l, true) : Option (List (List Rw) × List Tm × Bool))) (Ev.bind (l12Copy_e ls f hl hls hf) (Ev.pure _)) fun k => ?_
    simp only [spec_SpineSince.l0, Option.bind_some, List.nil_append, List.length_nil, Nat.zero_add]
    rw [if_neg (by omega)]
    simp only [if_pos (show l.length < 8796093022208 by omega)]
  | succ n ih =>
    intro i hi
    have H := ih (i + 1) (by omega)
    have hm : rd_T79 l (i : Int) ∈ l := by
      have := getD_some (l := l) (i := i) (by omega) z79
      exact List.mem_of_getElem? (by simpa [rd_T79] using this)
    have hcv : covers f (rd_T79 l (i : Int)) = beyond f (rd_T79 l (i : Int)) := covers_eq hfr (hlo _ hm)
    rw [rdTm_at l i (by omega), List.all_cons]
    refine Ev.succ ?_
    cases hb : askOk f (rd_T79 l (i : Int)) with
    | true =>
      rw [Bool.true_and]
      refine Ev.of H fun k => ?_
      simp only [spec_SpineSince.l0, spec_FrontCovers.f, Option.bind_some]
      rw [if_pos (by omega), wnext (m := l.length) (by omega) (by omega)]
      unfold askOk at hb
      cases f with
      | nil => simp
      | cons a f => rw [if_pos (by simp), if_pos (by omega), if_pos (by rw [hcv]; simpa using hb)]
    | false =>
      rw [Bool.false_and]
      refine Ev.all fun k => ?_
      simp only [spec_SpineSince.l0, spec_FrontCovers.f, Option.bind_some]
      rw [if_pos (by omega)]
      unfold askOk at hb
      cases f with
      | nil => simp at hb
      | cons a f => rw [if_pos (by simp), if_pos (by omega), if_neg (by rw [hcv]; simpa using hb)]; rfl
theorem spineSince_e (ls : List (List Rw)) (f l : List Tm) (hl : ls.length ≤ 1048576) (hls : ∀ y ∈ ls, y.length ≤ 1048576) (hf : f.length ≤ 1048576) (hll : l.length ≤ 1048576) :
    Ev (fun k => impl_SpineSince.f k ls f l) (sinceR ls f l (spineOk ls f && frontOk l && !l.isEmpty && l.all (askOk f))) ∧ Ev (fun k => spec_SpineSince.f k ls f l) (sinceR ls f l (spineOk ls f && frontOk l && !l.isEmpty && l.all (askOk f))) := by
  have hq : ls.length ≤ 281474976710656 := by omega
  simp only [impl_SpineSince.f, spec_SpineSince.f, impl_SpineOk.f, spec_SpineOk.f, impl_FrontOk.f, spec_FrontOk.f, if_pos hq, Option.bind_some]
  cases h1 : spineOk ls f with
  | false =>
    simp only [Bool.false_eq_true, if_false, Bool.false_and]
    exact ⟨Ev.succ (Ev.all fun k => by simp only [impl_SpineSince.j0, if_true]; rfl), Ev.succ (Ev.all fun k => by simp only [spec_SpineSince.j0, if_true]; rfl)⟩
  | true =>
    simp only [if_true, Bool.true_and]
    cases h2 : frontOk l with
    | false =>
      simp only [Bool.false_eq_true, if_false, Bool.false_and]
      exact ⟨Ev.succ (Ev.all fun k => by simp only [impl_SpineSince.j0, if_true]; rfl), Ev.succ (Ev.all fun k => by simp only [spec_SpineSince.j0, if_true]; rfl)⟩
    | true =>
      simp only [if_true, Bool.true_and]
      have hfr : frontOk f = true := by simp only [spineOk, Bool.and_eq_true] at h1; exact h1.2
      have A := iSince_l ls f l hl hls hf hll l.length 0 (by omega)
      have B := sSince_l ls f l hl hls hf hll hfr (frontOk_all h2) l.length 0 (by omega)
      simp only [List.drop_zero] at A B
      cases l with
      | nil => exact ⟨Ev.succ (Ev.all fun k => by simp [impl_SpineSince.j0, sinceR]), Ev.succ (Ev.all fun k => by simp [spec_SpineSince.j0, sinceR])⟩
      | cons a l =>
        have e : ((((a :: l).length : Int)) == 0) = false := by simp; omega
        simp only [List.isEmpty_cons, Bool.not_false, Bool.true_and, e]
        exact ⟨Ev.succ (Ev.of A fun k => by simp only [impl_SpineSince.j0, Bool.false_eq_true, if_false]; rfl), Ev.succ (Ev.of B fun k => by simp only [spec_SpineSince.j0, Bool.false_eq_true, if_false]; rfl)⟩

/-- few layers, few rows, few times -/
structure SpB (ls : List (List Rw)) (f : List Tm) : Prop where
  l : ls.length ≤ 1048576
  ls : ∀ y ∈ ls, y.length ≤ 1048576
  f : f.length ≤ 1048576
/-- a spine in memory of its own -/
def SpO (w' : World) (base : Nat) (a b : Value) (ls : List (List Rw)) (f : List Tm) : Prop := Kd.S (Kd.slice 87 kRw) 38 w' base okT a ls ∧ kTm.R 79 w' base okT b f
/-- a spine that is read -/
def SpS (w : World) (a b : Value) (ls : List (List Rw)) (f : List Tm) : Prop := Sl (Kd.slice 87 kRw) w a ls ∧ Sl kTm w b f
theorem SpO.s {w : World} {base : Nat} {a b : Value} {ls : List (List Rw)} {f : List Tm} (h : SpO w base a b ls f) : SpS w a b ls f := by
  obtain ⟨A, c, rfl, h1, h2⟩ := Kd.S_reads h.1
  exact ⟨⟨A, c, rfl, h1, h2⟩, Sl.of_R h.2⟩
theorem SpS.below {w w' : World} {a b : Value} {ls : List (List Rw)} {f : List Tm} (h : SpS w a b ls f) (hb : Below w.heap.size w w') : SpS w' a b ls f := ⟨h.1.below hb, h.2.below hb⟩
/-- what a copy answers -/
def SpP (w : World) (ls : List (List Rw)) (f : List Tm) (e : Ending) (w' : World) : Prop := ∃ a b : Value, e = .returned (.agg #[a, b]) ∧ SpO w' w.heap.size a b ls f ∧ Below w.heap.size w w'
/-- what a function answers that may fail -/
def SpQ (w : World) (ls : List (List Rw)) (f : List Tm) (r : Bool) (e : Ending) (w' : World) : Prop := ∃ a b : Value, e = .returned (.tuple #[.agg #[a, b], .bool r]) ∧ SpO w' w.heap.size a b ls f ∧ Below w.heap.size w w'
/-- may a spine be asked from the times on only -/
def sinceB (ls : List (List Rw)) (f l : List Tm) : Bool := spineOk ls f && frontOk l && !l.isEmpty && l.all (askOk f)
def sinceL (ls : List (List Rw)) (f l : List Tm) : List (List Rw) := if sinceB ls f l then ls else []
def sinceF (ls : List (List Rw)) (f l : List Tm) : List Tm := if sinceB ls f l then l else []
theorem sinceR_eq (ls : List (List Rw)) (f l : List Tm) : sinceR ls f l (sinceB ls f l) = (sinceL ls f l, sinceF ls f l, sinceB ls f l) := by
  unfold sinceR sinceL sinceF
  cases sinceB ls f l <;> rfl
theorem impl_SpineSince (u v v2 : Value) (ls : List (List Rw)) (f l : List Tm) (w : World) (h : SpS w u v ls f) (h2 : Sl kTm w v2 l) (hb : SpB ls f) (hl : l.length ≤ 1048576) : Calls Try.prog 34 #[.agg #[u, v], v2] w (SpQ w (sinceL ls f l) (sinceF ls f l) (sinceB ls f l)) := by
  obtain ⟨⟨A, c, rfl, hc, hr⟩, A2, c2, rfl, hc2, hr2⟩ := h
  obtain ⟨A3, c3, rfl, hc3, hr3⟩ := h2
  obtain ⟨k, hk⟩ := (spineSince_e ls f l hb.l hb.ls hb.f hl).1.get
  rw [show (spineOk ls f && frontOk l && !l.isEmpty && l.all (askOk f)) = sinceB ls f l from rfl, sinceR_eq] at hk
  refine (impl_SpineSince.calls k A c ls A2 c2 f A3 c3 l _ _ _ w hr hc hr2 hc2 hr3 hc3 hk).mono ?_
  rintro e w' ⟨a, b, rfl, h1, h2, h3⟩
  exact ⟨a, b, rfl, ⟨h1, h2⟩, h3⟩
theorem spec_SpineSince (u v v2 : Value) (ls : List (List Rw)) (f l : List Tm) (w : World) (h : SpS w u v ls f) (h2 : Sl kTm w v2 l) (hb : SpB ls f) (hl : l.length ≤ 1048576) : Calls Try.prog 41 #[.agg #[u, v], v2] w (SpQ w (sinceL ls f l) (sinceF ls f l) (sinceB ls f l)) := by
  obtain ⟨⟨A, c, rfl, hc, hr⟩, A2, c2, rfl, hc2, hr2⟩ := h
  obtain ⟨A3, c3, rfl, hc3, hr3⟩ := h2
  obtain ⟨k, hk⟩ := (spineSince_e ls f l hb.l hb.ls hb.f hl).2.get
  rw [show (spineOk ls f && frontOk l && !l.isEmpty && l.all (askOk f)) = sinceB ls f l from rfl, sinceR_eq] at hk
  refine (spec_SpineSince.calls k A c ls A2 c2 f A3 c3 l _ _ _ w hr hc hr2 hc2 hr3 hc3 hk).mono ?_
  rintro e w' ⟨a, b, rfl, h1, h2, h3⟩
  exact ⟨a, b, rfl, ⟨h1, h2⟩, h3⟩
end Go.Proofs.Ythljcnlmeefcjaa.X

