/- Conditions: none. -/
import Derived.Test.YtkdendlgaaimbaaYNDrawRows
import Derived.Test.YtkdendlgaaimbaaYNLw
import Derived.RegionTactic
import Derived.BigRegion
namespace Go.Proofs.Ytkdendlgaaimbaa.X
open Go.RowKit Go.Proofs.YtkdendlgaaimbaaW.PrintWords
set_option linter.unusedVariables false
set_option linter.unusedSimpArgs false
def OpenP (w : World) (e : Ending) (w' : World) : Prop := ∃ rb s, e = .returned (.pointer (some ⟨rb, 0, none⟩)) ∧ RS s ∧ Rd w rb s 0 w' ∧ Below w.heap.size w w'
theorem OpenP.mk {w w' : World} {v : Value} {rb : Nat} {s : List Int} (hv : v = .pointer (some ⟨rb, 0, none⟩)) (h1 : RS s) (h2 : Rd w rb s 0 w') (h3 : Below w.heap.size w w') : OpenP w (.returned v) w' := ⟨rb, s, by rw [hv], h1, h2, h3⟩
set_option maxRecDepth 100000 in
set_option maxHeartbeats 1000000 in
theorem spec_l6Open (v : Value) (l : List Int) (w : World) (h : Sl kB w v l) (hb : ∀ x ∈ l, 0 ≤ x ∧ x ≤ 255) : Calls Try.prog 67 #[v] w (OpenP w) := by
 obtain ⟨A, c, rfl, hc, hr⟩ := h
 have hm := Kd.C_max hr
 have HR := Aside0.mk hr
 clear hr
 by_cases hl : 2000 < l.length
 ·have hl' : (2000 : Int) < (l.length : Int) := by omega
  have hc' : (2000 : Int) ≤ (c : Int) := by omega
  have hlen : (l.take 2000).length = 2000 := by rw [List.length_take]; omega
  go_enter Try.func67, Try.ntmps67
  go_wp2
  go_ret
  refine OpenP.mk (rb := w.heap.size) (s := l.take 2000) rfl ⟨by omega, fun x hx => hb x (List.mem_of_mem_take hx)⟩ ⟨⟨A, c, ?_, Kd.C_take HR.out (by omega)⟩, below_alloc (Below.refl _ _) _, Nat.le_refl _, Int.le_refl _⟩ (below_alloc (Below.refl _ _) _)
  rw [hlen]; exact blk_new w _
 ·have hl' : ¬ (2000 : Int) < (l.length : Int) := by omega
  go_enter Try.func67, Try.ntmps67
  go_wp2
  go_ret
  exact OpenP.mk (rb := w.heap.size) (s := l) rfl ⟨by omega, hb⟩ ⟨⟨A, c, blk_new w _, HR.out⟩, below_alloc (Below.refl _ _) _, Nat.le_refl _, Int.le_refl _⟩ (below_alloc (Below.refl _ _) _)
section
variable {P : Program} {ops : Array Oper} {rest : List Oper} {o : Oper} {a : Act} {Q : Exit → Act → World → Prop}
end
end Go.Proofs.Ytkdendlgaaimbaa.X
namespace Go.Proofs.Ytkdendlgaaimbaa.X
open Go.RowKit Go.Proofs.YtkdendlgaaimbaaW.PrintWords
set_option linter.unusedVariables false
set_option linter.unusedSimpArgs false
end Go.Proofs.Ytkdendlgaaimbaa.X
namespace Go.Proofs.Ytkdendlgaaimbaa.X
open Go.RowKit Go.Proofs.YtkdendlgaaimbaaW.PrintWords
set_option linter.unusedVariables false
set_option linter.unusedSimpArgs false
end Go.Proofs.Ytkdendlgaaimbaa.X
namespace Go.Proofs.Ytkdendlgaaimbaa.X
open Go.RowKit Go.Proofs.YtkdendlgaaimbaaW.PrintWords
set_option linter.unusedVariables false
set_option linter.unusedSimpArgs false
theorem set_take {α : Type} {l : List α} {k : Nat} {x : α} (f : α → α) (hx : l[k]? = some x) : ((l.take k).map f ++ l.drop k).set k (f x) = (l.take (k + 1)).map f ++ l.drop (k + 1) := by
 obtain ⟨hlt, rfl⟩ := List.getElem?_eq_some_iff.1 hx
 have hl : ((l.take k).map f).length = k := by rw [List.length_map, List.length_take]; omega
 rw [List.set_append_right _ _ (by omega), hl, Nat.sub_self, List.drop_eq_getElem_cons hlt, List.set_cons_zero, List.take_succ_eq_append_getElem hlt, List.map_append, List.append_assoc]
 rfl
theorem get_take {α : Type} {l : List α} {k : Nat} {x : α} (f : α → α) (hx : l[k]? = some x) : ((l.take k).map f ++ l.drop k)[k]? = some x := by
 obtain ⟨hlt, rfl⟩ := List.getElem?_eq_some_iff.1 hx
 have hl : ((l.take k).map f).length = k := by rw [List.length_map, List.length_take]; omega
 rw [List.getElem?_append_right (by omega), hl, Nat.sub_self, List.getElem?_drop]; simp [hlt]
theorem len_take {α : Type} {l : List α} {k : Nat} (f : α → α) (hk : k ≤ l.length) : ((l.take k).map f ++ l.drop k).length = l.length := by
 rw [List.length_append, List.length_map, List.length_take, List.length_drop]; omega
end Go.Proofs.Ytkdendlgaaimbaa.X
namespace Go.Proofs.Ytkdendlgaaimbaa.X
open Go.RowKit Go.Proofs.YtkdendlgaaimbaaW.PrintWords
set_option linter.unusedVariables false
set_option linter.unusedSimpArgs false
theorem rowsOk_all {l : List Rw} (h : rowsOk l = true) : l.length ≤ 400 ∧ ∀ r ∈ l, rowOk r = true := by
 simp only [rowsOk, Bool.and_eq_true, decide_eq_true_eq, List.all_eq_true] at h; exact ⟨h.2, h.1⟩
theorem rowOk_in {r : Rw} (h : rowOk r = true) : (0 ≤ r.f0 ∧ r.f0 ≤ 3) ∧ (0 ≤ r.f1 ∧ r.f1 ≤ 99) ∧ (0 ≤ r.f2.f0 ∧ r.f2.f0 ≤ 7 ∧ 0 ≤ r.f2.f1 ∧ r.f2.f1 ≤ 7) ∧ (-99999 ≤ r.f3 ∧ r.f3 ≤ 99999) := by
 simp only [rowOk, tOk, Bool.and_eq_true, decide_eq_true_eq] at h; omega
def RwFit (l : List Rw) : Prop := ∀ x ∈ l, wfK x ∧ wfI x.f3
theorem RwFit.of {l : List Rw} (h : ∀ r ∈ l, (-1000000000000 ≤ r.f0 ∧ r.f0 ≤ 1000000000000) ∧ (-1000000000000 ≤ r.f1 ∧ r.f1 ≤ 1000000000000) ∧ (-1000000000000 ≤ r.f2.f0 ∧ r.f2.f0 ≤ 1000000000000) ∧ (-1000000000000 ≤ r.f2.f1 ∧ r.f2.f1 ≤ 1000000000000) ∧ (-9223372036854775808 ≤ r.f3 ∧ r.f3 ≤ 9223372036854775807)) : RwFit l := fun r hr => by
 obtain ⟨h0, h1, h2, h3, h4⟩ := h r hr
 exact ⟨⟨wf_of (by omega) (by omega), wf_of (by omega) (by omega), wf_of (by omega) (by omega), wf_of (by omega) (by omega)⟩, wf_of h4.1 h4.2⟩
theorem rowsOk_fit {l : List Rw} (h : ∀ r ∈ l, rowOk r = true) : RwFit l := RwFit.of fun r hr => by have := rowOk_in (h r hr); omega
theorem presentOf_mem {l : List Rw} {t : Tm} {y : It} (h : y ∈ presentOf l t) : ∃ r ∈ l, y = itemOf r := by
 unfold presentOf at h
 obtain ⟨r, hr, rfl⟩ := List.mem_map.1 h
 exact ⟨r, (List.mem_filter.1 hr).1, rfl⟩
theorem presentOf_fit {l : List Rw} (t : Tm) (h : RwFit l) : ∀ x ∈ presentOf l t, wfI x.f0 ∧ wfI x.f1 ∧ wfI x.f2 := fun y hy => by
 obtain ⟨r, hr, rfl⟩ := presentOf_mem hy
 have := h r hr
 exact ⟨this.1.1, this.1.2.1, this.2⟩
set_option maxRecDepth 100000 in
set_option maxHeartbeats 4000000 in
theorem impl_present (v : Value) (l : List Rw) (t : Tm) (w : World) (h : Sl kRw w v l) (hwf : RwFit l) (hl : l.length ≤ 1000000) : Calls Try.prog 92 #[v, .agg #[.int .i64 t.f0, .int .i64 t.f1]] w (RetR kIt 118 w (present l t)) := by
 obtain ⟨A, c_, rfl, HC, hr⟩ := h
 have hm := Kd.C_max hr
 have HR := Aside0.mk hr
 clear hr
 have hfit := Aside0.mk (presentOf_fit t hwf)
 have HG := Aside0.mk (blk_alloc (blk_new w (.cells #[.int .i64 t.f0, .int .i64 t.f1] 43)) (.cells #[] 118))
 have HN := Aside0.mk (R_none (d := kIt) (e := 118) (base := w.heap.size) (ok := fun q => q ≠ w.heap.size) (blk_two w (.cells #[.int .i64 t.f0, .int .i64 t.f1] 43) (.cells #[] 118)) (by omega) (by omega))
 clear hwf
 have HB := Aside0.mk (Below.refl w.heap.size w)
 go_enter Try.func92, Try.ntmps92
 replace HB := Aside0.mk (below_alloc (below_alloc HB.out (.cells #[.int .i64 t.f0, .int .i64 t.f1] 43)) (.cells #[] 118))
 go_wp2
 go_loopw [5, 11] (fun o i wr => ∃ (k : Nat), k ≤ l.length ∧ i = .int .i64 k ∧ Aside0 (kIt.R 118 wr w.heap.size (fun q => q ≠ w.heap.size) o (presentOf (l.take k) t)) ∧ Aside0 (wr.heap[w.heap.size]? = some (.cells #[.int .i64 t.f0, .int .i64 t.f1] 43 (0, 0))) ∧ Aside0 (Below w.heap.size w wr)) (fun _ i _ => l.length - (intOf i).toNat)
 case atStart => exact ⟨0, Nat.zero_le _, rfl, HN, HG, HB⟩
 case round =>
  clear HB HN HG
  obtain ⟨k, hk, rfl, HO, HG, HB⟩ := hrel
  by_cases hlt : k < l.length
  ·obtain ⟨ad, x, e, HX, h0, h1, h2, h3, h4⟩ := rdRw HR.out HB.out hlt
   cases e
   have hws := HB.out.size
   have hgl := blk_lt HG.out
   have hpl := presentOf_len (l.take k) t
   rw [List.length_take] at hpl
   go_upto_region 5 with fail
   refine name_world fun W hW => ?_
   have B0 : W.heap[wr.heap.size]? = some (.cells #[.int .i64 x.f0, .int .i64 x.f1, .int .i64 x.f2.f0, .int .i64 x.f2.f1, .int .i64 x.f3] 102 (0, 0)) := by rw [hW]; exact blk_new wr _
   have hb1 : Below wr.heap.size wr W := by rw [hW]; repeat (first | exact Below.refl _ _ | apply below_alloc | refine below_set ?_ (by simp))
   clear hW
   generalize hX : wr.heap.size = X at B0 ⊢
   replace HB := Aside0.mk (bthen HB.out hb1)
   replace HO := Aside0.mk (Kd.R_below HO.out hb1)
   replace HG := Aside0.mk (blk_below HG.out hb1)
   have hWs := hb1.size
   have hXl := blk_lt B0
   have g0 : W.cell? ⟨w.heap.size, 0, none⟩ = some (.int .i64 t.f0) := blk_cell HG.out 0
   have g1 : W.cell? ⟨w.heap.size, 1, none⟩ = some (.int .i64 t.f1) := blk_cell HG.out 1
   have b0 : W.cell? ⟨X, 0, none⟩ = some (.int .i64 x.f0) := blk_cell B0 0
   have b1 : W.cell? ⟨X, 1, none⟩ = some (.int .i64 x.f1) := blk_cell B0 1
   have b2 : W.cell? ⟨X, 2, none⟩ = some (.int .i64 x.f2.f0) := blk_cell B0 2
   have b3 : W.cell? ⟨X, 3, none⟩ = some (.int .i64 x.f2.f1) := blk_cell B0 3
   have b4 : W.cell? ⟨X, 4, none⟩ = some (.int .i64 x.f3) := blk_cell B0 4
   clear h0 h1 h2 h3 h4 hb1 hX
   cases hbw : below x.f2 t
   ·have TL : ∀ W, Calls Try.prog 129 #[.agg #[.int .i64 x.f2.f0, .int .i64 x.f2.f1], .agg #[.int .i64 t.f0, .int .i64 t.f1]] W (RetV W (.bool false)) := fun W => by
     have := impl_below x.f2.f0 x.f2.f1 t.f0 t.f1 W
     rw [show below ⟨x.f2.f0, x.f2.f1⟩ ⟨t.f0, t.f1⟩ = false from hbw] at this
     exact this
    have HW := Aside0.mk hbw
    clear hbw
    go_wp2_with (go_at_call 129; ((with_reducible refine (TL _).mono ?_); rintro e w' ⟨rfl, hb⟩; replace HB := Aside0.mk (bthen HB.out hb); replace HO := Aside0.mk (Kd.R_below HO.out hb); replace HG := Aside0.mk (blk_below HG.out hb); clear hb))
    go_roundw
    case rel => exact ⟨k + 1, by omega, by go_num, ⟨by rw [presentOf_snoc HX.out, HW.out]; simpa using HO.out⟩, HG, HB⟩
    case measure => simp [intOf]; omega
   ·have TL : ∀ W, Calls Try.prog 129 #[.agg #[.int .i64 x.f2.f0, .int .i64 x.f2.f1], .agg #[.int .i64 t.f0, .int .i64 t.f1]] W (RetV W (.bool true)) := fun W => by
     have := impl_below x.f2.f0 x.f2.f1 t.f0 t.f1 W
     rw [show below ⟨x.f2.f0, x.f2.f1⟩ ⟨t.f0, t.f1⟩ = true from hbw] at this
     exact this
    have HW := Aside0.mk hbw
    clear hbw
    go_wp2_with (first | (go_at_call 129; ((with_reducible refine (TL _).mono ?_); rintro e w' ⟨rfl, hb⟩; replace HB := Aside0.mk (bthen HB.out hb); replace HO := Aside0.mk (Kd.R_below HO.out hb); replace b0 := pw_cell_below hb b0; replace b1 := pw_cell_below hb b1; replace b4 := pw_cell_below hb b4; replace HG := Aside0.mk (blk_below HG.out hb); clear hb)) | (at_builtin; refine appIt (w0 := w) (base := w.heap.size) (xs := presentOf (l.take k) t) (ok := fun q => q ≠ w.heap.size) rfl rfl rfl HO.out (fun q hq => by have := HB.out.size; have := blk_lt HG.out; omega) HB.out HB.out.size (by omega) ?_; intro v1 w1 hr1 hb1 hg1 ha1; have HO2 := Aside0.mk hr1; replace HG := Aside0.mk (blk_app HO.out hg1 HG.out (fun e => e rfl)); replace HB := Aside0.mk hb1; clear hr1 hb1 hg1 ha1))
    go_roundw
    case rel => exact ⟨k + 1, by omega, by go_num, ⟨by rw [presentOf_snoc HX.out, HW.out]; exact HO2.out⟩, HG, HB⟩
    case measure => simp [intOf]; omega
  ·obtain rfl : k = l.length := by omega
   rw [List.take_length] at HO
   have hpl := presentOf_len l t
   go_wp2_with (go_at_call 141; ((with_reducible refine (impl_gathered _ (presentOf l t) _ (Sl.of_R HO.out) hfit.out (by omega)).mono ?_); rintro e w' ⟨u, rfl, hr, hb⟩; have HF := Aside0.mk (Kd.R_lower hr HB.out.size); replace HB := Aside0.mk (bthen HB.out hb); clear hr hb))
   go_ret
   exact RetR.mk HF.out HB.out
end Go.Proofs.Ytkdendlgaaimbaa.X
