/- Conditions: none. -/
import Derived.Test.YtkdendlgaaimbaaYODrawRows
import Derived.Test.YtkdendlgaaimbaaYOLw
import Derived.RegionTactic
import Derived.BigRegion
namespace Go.Proofs.Ytkdendlgaaimbaa.X
open Go.RowKit Go.Proofs.YtkdendlgaaimbaaW.PrintWords
set_option linter.unusedVariables false
set_option linter.unusedSimpArgs false
theorem R_off {α : Type} {d : Kd α} {e : Nat} {w : World} {base rb : Nat} {ok : Nat → Prop} {v : Value} {xs : List α} (h : d.R e w base ok v xs) (hb : rb < base) : d.R e w base (fun q => q ≠ rb) v xs := Kd.R_mono (Kd.R_bound h) (fun q hq => by have := hq.2.1; omega)
def OpenP (w : World) (e : Ending) (w' : World) : Prop := ∃ rb s, e = .returned (.pointer (some ⟨rb, 0, none⟩)) ∧ RS s ∧ Rd w rb s 0 w' ∧ Below w.heap.size w w'
theorem OpenP.mk {w w' : World} {v : Value} {rb : Nat} {s : List Int} (hv : v = .pointer (some ⟨rb, 0, none⟩)) (h1 : RS s) (h2 : Rd w rb s 0 w') (h3 : Below w.heap.size w w') : OpenP w (.returned v) w' := ⟨rb, s, by rw [hv], h1, h2, h3⟩
set_option maxRecDepth 100000 in
set_option maxHeartbeats 1000000 in
theorem spec_l6Open (v : Value) (l : List Int) (w : World) (h : Sl kB w v l) (hb : ∀ x ∈ l, 0 ≤ x ∧ x ≤ 255) : Calls Try.prog 67 #[v] w (OpenP w) := by
 obtain ⟨A, c, rfl, hc, hr⟩ := h
 have hm := Kd.C_max hr
 have HR := Aside0.mk hr
 clear hr
 by_cases hl : 2000 < l.length
 ·have hl' : (2000 : Int) < (l.length : Int) := by omega
  have hc' : (2000 : Int) ≤ (c : Int) := by omega
  have hlen : (l.take 2000).length = 2000 := by rw [List.length_take]; omega
  go_enter Try.func67, Try.ntmps67
  go_wp2
  go_ret
  refine OpenP.mk (rb := w.heap.size) (s := l.take 2000) rfl ⟨by omega, fun x hx => hb x (List.mem_of_mem_take hx)⟩ ⟨⟨A, c, ?_, Kd.C_take HR.out (by omega)⟩, below_alloc (Below.refl _ _) _, Nat.le_refl _, Int.le_refl _⟩ (below_alloc (Below.refl _ _) _)
  rw [hlen]; exact blk_new w _
 ·have hl' : ¬ (2000 : Int) < (l.length : Int) := by omega
  go_enter Try.func67, Try.ntmps67
  go_wp2
  go_ret
  exact OpenP.mk (rb := w.heap.size) (s := l) rfl ⟨by omega, hb⟩ ⟨⟨A, c, blk_new w _, HR.out⟩, below_alloc (Below.refl _ _) _, Nat.le_refl _, Int.le_refl _⟩ (below_alloc (Below.refl _ _) _)
section
variable {P : Program} {ops : Array Oper} {rest : List Oper} {o : Oper} {a : Act} {Q : Exit → Act → World → Prop}
end
end Go.Proofs.Ytkdendlgaaimbaa.X
namespace Go.Proofs.Ytkdendlgaaimbaa.X
open Go.RowKit Go.Proofs.YtkdendlgaaimbaaW.PrintWords
set_option linter.unusedVariables false
set_option linter.unusedSimpArgs false
end Go.Proofs.Ytkdendlgaaimbaa.X
namespace Go.Proofs.Ytkdendlgaaimbaa.X
open Go.RowKit Go.Proofs.YtkdendlgaaimbaaW.PrintWords
set_option linter.unusedVariables false
set_option linter.unusedSimpArgs false
end Go.Proofs.Ytkdendlgaaimbaa.X
namespace Go.Proofs.Ytkdendlgaaimbaa.X
open Go.RowKit Go.Proofs.YtkdendlgaaimbaaW.PrintWords
set_option linter.unusedVariables false
set_option linter.unusedSimpArgs false
theorem set_take {α : Type} {l : List α} {k : Nat} {x : α} (f : α → α) (hx : l[k]? = some x) : ((l.take k).map f ++ l.drop k).set k (f x) = (l.take (k + 1)).map f ++ l.drop (k + 1) := by
 obtain ⟨hlt, rfl⟩ := List.getElem?_eq_some_iff.1 hx
 have hl : ((l.take k).map f).length = k := by rw [List.length_map, List.length_take]; omega
 rw [List.set_append_right _ _ (by omega), hl, Nat.sub_self, List.drop_eq_getElem_cons hlt, List.set_cons_zero, List.take_succ_eq_append_getElem hlt, List.map_append, List.append_assoc]
 rfl
theorem get_take {α : Type} {l : List α} {k : Nat} {x : α} (f : α → α) (hx : l[k]? = some x) : ((l.take k).map f ++ l.drop k)[k]? = some x := by
 obtain ⟨hlt, rfl⟩ := List.getElem?_eq_some_iff.1 hx
 have hl : ((l.take k).map f).length = k := by rw [List.length_map, List.length_take]; omega
 rw [List.getElem?_append_right (by omega), hl, Nat.sub_self, List.getElem?_drop]; simp [hlt]
theorem len_take {α : Type} {l : List α} {k : Nat} (f : α → α) (hk : k ≤ l.length) : ((l.take k).map f ++ l.drop k).length = l.length := by
 rw [List.length_append, List.length_map, List.length_take, List.length_drop]; omega
end Go.Proofs.Ytkdendlgaaimbaa.X
namespace Go.Proofs.Ytkdendlgaaimbaa.X
open Go.RowKit Go.Proofs.YtkdendlgaaimbaaW.PrintWords
set_option linter.unusedVariables false
set_option linter.unusedSimpArgs false
theorem rowsOk_all {l : List Rw} (h : rowsOk l = true) : l.length ≤ 400 ∧ ∀ r ∈ l, rowOk r = true := by
 simp only [rowsOk, Bool.and_eq_true, decide_eq_true_eq, List.all_eq_true] at h; exact ⟨h.2, h.1⟩
theorem rowOk_in {r : Rw} (h : rowOk r = true) : (0 ≤ r.f0 ∧ r.f0 ≤ 3) ∧ (0 ≤ r.f1 ∧ r.f1 ≤ 99) ∧ (0 ≤ r.f2.f0 ∧ r.f2.f0 ≤ 7 ∧ 0 ≤ r.f2.f1 ∧ r.f2.f1 ≤ 7) ∧ (-99999 ≤ r.f3 ∧ r.f3 ≤ 99999) := by
 simp only [rowOk, tOk, Bool.and_eq_true, decide_eq_true_eq] at h; omega
def RwFit (l : List Rw) : Prop := ∀ x ∈ l, wfK x ∧ wfI x.f3
theorem RwFit.all {l : List Rw} (h : RwFit l) : ∀ x ∈ l, wfK x ∧ wfI x.f3 := h
theorem RwFit.of {l : List Rw} (h : ∀ r ∈ l, (-1000000000000 ≤ r.f0 ∧ r.f0 ≤ 1000000000000) ∧ (-1000000000000 ≤ r.f1 ∧ r.f1 ≤ 1000000000000) ∧ (-1000000000000 ≤ r.f2.f0 ∧ r.f2.f0 ≤ 1000000000000) ∧ (-1000000000000 ≤ r.f2.f1 ∧ r.f2.f1 ≤ 1000000000000) ∧ (-9223372036854775808 ≤ r.f3 ∧ r.f3 ≤ 9223372036854775807)) : RwFit l := fun r hr => by
 obtain ⟨h0, h1, h2, h3, h4⟩ := h r hr
 exact ⟨⟨wf_of (by omega) (by omega), wf_of (by omega) (by omega), wf_of (by omega) (by omega), wf_of (by omega) (by omega)⟩, wf_of h4.1 h4.2⟩
theorem rowsOk_fit {l : List Rw} (h : ∀ r ∈ l, rowOk r = true) : RwFit l := RwFit.of fun r hr => by have := rowOk_in (h r hr); omega
set_option maxRecDepth 100000 in
set_option maxHeartbeats 2000000 in
theorem impl_together (v v2 : Value) (l m : List Rw) (w : World) (h : Sl kRw w v l) (h2 : Sl kRw w v2 m) (hl : l.length + m.length ≤ 1000000) : Calls Try.prog 81 #[v, v2] w (RetR kRw 102 w (l ++ m)) := by
 have HS := Aside0.mk h
 have HT := Aside0.mk h2
 have HN := Aside0.mk (R_none (d := kRw) (e := 102) (base := w.heap.size) (ok := okT) (blk_new w (.cells #[] 102)) (Nat.le_refl _) trivial)
 have HB := Aside0.mk (Below.refl w.heap.size w)
 go_enter Try.func81, Try.ntmps81
 replace HB := Aside0.mk (below_alloc HB.out (.cells #[] 102))
 go_wp2_with (first | (at_builtin; refine appsRw (w0 := w) (base := w.heap.size) (xs := []) (ys := l) (ok := okT) rfl rfl (HS.out.below HB.out) HN.out (fun _ _ => trivial) HB.out HB.out.size (by first | omega | (simp; omega)) ?_; intro v1 w' hr1 hb1 hg1 ha1; have HN1 := Aside0.mk hr1; replace HB := Aside0.mk hb1; clear hr1 hb1 hg1 ha1) | (at_builtin; refine appsRw (w0 := w) (base := w.heap.size) (xs := [] ++ l) (ys := m) (ok := okT) rfl rfl (HT.out.below HB.out) HN1.out (fun _ _ => trivial) HB.out HB.out.size (by first | omega | (simp; omega)) ?_; intro v2 w' hr1 hb1 hg1 ha1; have HN2 := Aside0.mk hr1; replace HB := Aside0.mk hb1; clear hr1 hb1 hg1 ha1))
 go_ret
 exact RetR.mk HN2.out HB.out
def BatchP (w : World) (l : List Rw) (e : Ending) (w' : World) : Prop := ∃ v, e = .returned (.tuple #[v, .bool (batchOk l)]) ∧ kRw.R 102 w' w.heap.size okT v (fit l) ∧ Below w.heap.size w w'
theorem BatchP.mk {w w' : World} {l : List Rw} {v : Value} {b : Bool} (hb : b = batchOk l) (h : kRw.R 102 w' w.heap.size okT v (fit l)) (hB : Below w.heap.size w w') : BatchP w l (.returned (.tuple #[v, .bool b])) w' := ⟨v, by rw [hb], h, hB⟩
set_option maxRecDepth 100000 in
set_option maxHeartbeats 2000000 in
theorem impl_batch (v : Value) (l : List Rw) (w : World) (h : Sl kRw w v l) (hf : RwFit l) (hl : l.length ≤ 1000000) : Calls Try.prog 78 #[v] w (BatchP w (sum l)) := by
 have HS := Aside0.mk h
 have HFit := Aside0.mk hf
 clear hf
 cases hbo : batchOk (sum l)
 ·have HB := Aside0.mk (Below.refl w.heap.size w)
  go_enter Try.func78, Try.ntmps78
  go_wp2_with (first | (go_at_call 80; ((with_reducible refine (impl_consolidated _ l _ (HS.out.below HB.out) HFit.out.all (by omega)).mono ?_); rintro e w' ⟨u, rfl, hr, hb⟩; have HF := Aside0.mk (Kd.R_lower hr HB.out.size); replace HB := Aside0.mk (bthen HB.out hb); clear hr hb)) | (go_at_call 37; ((with_reducible refine (impl_BatchOk _ (sum l) _ (Sl.of_R HF.out)).mono ?_); rintro e w' ⟨rfl, hb⟩; replace HB := Aside0.mk (bthen HB.out hb); clear hb)))
  go_ret2
  exact BatchP.mk hbo.symm (by rw [fit, hbo]; exact Kd.R_nil _ _ _ _ _) HB.out
 ·have HB := Aside0.mk (Below.refl w.heap.size w)
  go_enter Try.func78, Try.ntmps78
  go_wp2_with (first | (go_at_call 80; ((with_reducible refine (impl_consolidated _ l _ (HS.out.below HB.out) HFit.out.all (by omega)).mono ?_); rintro e w' ⟨u, rfl, hr, hb⟩; have HF := Aside0.mk (Kd.R_lower hr HB.out.size); replace HB := Aside0.mk (bthen HB.out hb); clear hr hb)) | (go_at_call 37; ((with_reducible refine (impl_BatchOk _ (sum l) _ (Sl.of_R HF.out)).mono ?_); rintro e w' ⟨rfl, hb⟩; replace HB := Aside0.mk (bthen HB.out hb); replace HF := Aside0.mk (Kd.R_below HF.out hb); clear hb)))
  go_ret2
  exact BatchP.mk hbo.symm (by rw [fit, hbo]; exact HF.out) HB.out
end Go.Proofs.Ytkdendlgaaimbaa.X
