/- The draws of collections; collections, second part; batches. Conditions: none. -/
import Derived.Test.YthljcnlmeefcjaaProg
import Derived.Below
import Derived.Deep.Draws
import Derived.Deep.AppendLies
import Derived.Maps.AppendAt
import Derived.OwnWalk
import Derived.Laws.BytesArg
import Derived.Laws.MakeOwn
import Derived.Laws.OwnMore
import Derived.Deep.OwnRows
import Derived.Tactics
import Derived.Lib.ConvBytes
import Derived.Laws.Slices
import Derived.WalkKit
import Derived.KernelRfl
import Derived.RowKit3
import Derived.Deep.LoopGhost
import Derived.Deep.QuietTactic
import Derived.BigQuiet
import Derived.WideLaws
import Derived.Deep.DeepCutAuto
import Derived.Deep.CutBlock
import Derived.Deep.RegionHeld3
import Derived.Laws.Rows
import Derived.Lib.AppendStr
import Derived.ArgAppend
import Derived.Laws.IdiomCopy
import Derived.OrdersHeld
import Derived.Laws.BitsLemmas
import Derived.RowKit
import Derived.Test.YthljcnlmeefcjaaYCBs
import Derived.Test.YthljcnlmeefcjaaYTBs
import Derived.Test.YthljcnlmeefcjaaWWords
import Derived.Test.YthljcnlmeefcjaaWLast
import Derived.Test.YthljcnlmeefcjaaWTab
import Derived.Test.YthljcnlmeefcjaaWFour
import Derived.Test.YthljcnlmeefcjaaWQPut
import Derived.Test.YthljcnlmeefcjaaWApart
import Derived.Test.YthljcnlmeefcjaaWArr
import Derived.Test.YthljcnlmeefcjaaWZeros
import Derived.Test.YthljcnlmeefcjaaWFoot
import Derived.Test.YthljcnlmeefcjaaWKept
import Derived.Test.YthljcnlmeefcjaaWShare
import Derived.Test.YthljcnlmeefcjaaWN
import Derived.Test.YthljcnlmeefcjaaWFootNe
import Derived.Test.YthljcnlmeefcjaaWAt
import Derived.Test.YthljcnlmeefcjaaWEqStruct
import Derived.Test.YthljcnlmeefcjaaWRepsOne
import Derived.Test.YthljcnlmeefcjaaWInv
import Derived.Test.YthljcnlmeefcjaaWInvWords
import Derived.Test.YthljcnlmeefcjaaWGuard
import Derived.Test.YthljcnlmeefcjaaWNEv
import Derived.Test.YthljcnlmeefcjaaWMore
import Derived.Test.YthljcnlmeefcjaaYTLb
import Derived.Shelf.GgSortFunc.LotD
import Derived.Test.YthljcnlmeefcjaaYTSa
import Derived.RegionTactic
import Derived.BigRegion
namespace Go.Proofs.Ythljcnlmeefcjaa.X
open Go.RowKit Go.Proofs.YthljcnlmeefcjaaW.PrintWords
set_option linter.unusedVariables false
set_option linter.unusedSimpArgs false

section
variable {P : Program} {ops : Array Oper} {rest : List Oper} {o : Oper} {a : Act} {Q : Exit → Act → World → Prop}
end
end Go.Proofs.Ythljcnlmeefcjaa.X

namespace Go.Proofs.Ythljcnlmeefcjaa.X
open Go.RowKit Go.Proofs.YthljcnlmeefcjaaW.PrintWords
set_option linter.unusedVariables false
set_option linter.unusedSimpArgs false

end Go.Proofs.Ythljcnlmeefcjaa.X

namespace Go.Proofs.Ythljcnlmeefcjaa.X
open Go.RowKit Go.Proofs.YthljcnlmeefcjaaW.PrintWords
set_option linter.unusedVariables false
set_option linter.unusedSimpArgs false

end Go.Proofs.Ythljcnlmeefcjaa.X

namespace Go.Proofs.Ythljcnlmeefcjaa.X
open Go.RowKit Go.Proofs.YthljcnlmeefcjaaW.PrintWords
set_option linter.unusedVariables false
set_option linter.unusedSimpArgs false

end Go.Proofs.Ythljcnlmeefcjaa.X

namespace Go.Proofs.Ythljcnlmeefcjaa.X
open Go.RowKit Go.Proofs.YthljcnlmeefcjaaW.PrintWords
set_option linter.unusedVariables false
set_option linter.unusedSimpArgs false

theorem rowsOk_all {l : List Rw} (h : rowsOk l = true) : l.length ≤ 400 ∧ ∀ r ∈ l, rowOk r = true := by
  simp only [rowsOk, Bool.and_eq_true, decide_eq_true_eq, List.all_eq_true] at h; exact ⟨h.2, h.1⟩
theorem rowOk_in {r : Rw} (h : rowOk r = true) : (0 ≤ r.f0 ∧ r.f0 ≤ 3) ∧ (0 ≤ r.f1 ∧ r.f1 ≤ 99) ∧ (0 ≤ r.f2.f0 ∧ r.f2.f0 ≤ 7 ∧ 0 ≤ r.f2.f1 ∧ r.f2.f1 ≤ 7) ∧ (-99999 ≤ r.f3 ∧ r.f3 ≤ 99999) := by
  simp only [rowOk, tOk, Bool.and_eq_true, decide_eq_true_eq] at h; omega
/-- rows of ints of the machine -/
def RwFit (l : List Rw) : Prop := ∀ x ∈ l, wfK x ∧ wfI x.f3
theorem RwFit.of {l : List Rw} (h : ∀ r ∈ l, (-1000000000000 ≤ r.f0 ∧ r.f0 ≤ 1000000000000) ∧ (-1000000000000 ≤ r.f1 ∧ r.f1 ≤ 1000000000000) ∧ (-1000000000000 ≤ r.f2.f0 ∧ r.f2.f0 ≤ 1000000000000) ∧ (-1000000000000 ≤ r.f2.f1 ∧ r.f2.f1 ≤ 1000000000000) ∧ (-9223372036854775808 ≤ r.f3 ∧ r.f3 ≤ 9223372036854775807)) : RwFit l := fun r hr => by
  obtain ⟨h0, h1, h2, h3, h4⟩ := h r hr
  exact ⟨⟨wf_of (by omega) (by omega), wf_of (by omega) (by omega), wf_of (by omega) (by omega), wf_of (by omega) (by omega)⟩, wf_of h4.1 h4.2⟩
theorem rowsOk_fit {l : List Rw} (h : ∀ r ∈ l, rowOk r = true) : RwFit l := RwFit.of fun r hr => by have := rowOk_in (h r hr); omega
theorem presentOf_mem {l : List Rw} {t : Tm} {y : It} (h : y ∈ presentOf l t) : ∃ r ∈ l, y = itemOf r := by
  unfold presentOf at h
  obtain ⟨r, hr, rfl⟩ := List.mem_map.1 h
  exact ⟨r, (List.mem_filter.1 hr).1, rfl⟩
theorem presentOf_fit {l : List Rw} (t : Tm) (h : RwFit l) : ∀ x ∈ presentOf l t, wfI x.f0 ∧ wfI x.f1 ∧ wfI x.f2 := fun y hy => by
  obtain ⟨r, hr, rfl⟩ := presentOf_mem hy
  have := h r hr
  exact ⟨this.1.1, this.1.2.1, this.2⟩
set_option maxRecDepth 100000 in
set_option maxHeartbeats 4000000 in
theorem impl_present (v : Value) (l : List Rw) (t : Tm) (w : World) (h : Sl kRw w v l) (hwf : RwFit l) (hl : l.length ≤ 1000000) : Calls Try.prog 151 #[v, .agg #[.int .i64 t.f0, .int .i64 t.f1]] w (RetR kIt 151 w (present l t)) := by
  obtain ⟨A, c_, rfl, HC, hr⟩ := h
  have hm := Kd.C_max hr
  have HR := Aside0.mk hr
  clear hr
  have hfit := Aside0.mk (presentOf_fit t hwf)
  have HG := Aside0.mk (blk_alloc (blk_new w (.cells #[.int .i64 t.f0, .int .i64 t.f1] 79)) (.cells #[] 151))
  have HN := Aside0.mk (R_none (d := kIt) (e := 151) (base := w.heap.size) (ok := fun q => q ≠ w.heap.size) (blk_two w (.cells #[.int .i64 t.f0, .int .i64 t.f1] 79) (.cells #[] 151)) (by omega) (by omega))
  clear hwf
  have HB := Aside0.mk (Below.refl w.heap.size w)
  go_enter Try.func151, Try.ntmps151
  replace HB := Aside0.mk (below_alloc (below_alloc HB.out (.cells #[.int .i64 t.f0, .int .i64 t.f1] 79)) (.cells #[] 151))
  go_wp2
  go_loopw [5, 11] (fun o i wr => ∃ (k : Nat), k ≤ l.length ∧ i = .int .i64 k ∧ Aside0 (kIt.R 151 wr w.heap.size (fun q => q ≠ w.heap.size) o (presentOf (l.take k) t)) ∧ Aside0 (wr.heap[w.heap.size]? = some (.cells #[.int .i64 t.f0, .int .i64 t.f1] 79 (0, 0))) ∧ Aside0 (Below w.heap.size w wr)) (fun _ i _ => l.length - (intOf i).toNat)
  case atStart => exact ⟨0, Nat.zero_le _, rfl, HN, HG, HB⟩
  case round =>
    clear HB HN HG
    obtain ⟨k, hk, rfl, HO, HG, HB⟩ := hrel
    by_cases hlt : k < l.length
    · obtain ⟨ad, x, e, HX, h0, h1, h2, h3, h4⟩ := rdRw HR.out HB.out hlt
      cases e
      have hws := HB.out.size
      have hgl := blk_lt HG.out
      have hpl := presentOf_len (l.take k) t
      rw [List.length_take] at hpl
      go_upto_region 5 with fail
      refine name_world fun W hW => ?_
      have B0 : W.heap[wr.heap.size]? = some (.cells #[.int .i64 x.f0, .int .i64 x.f1, .int .i64 x.f2.f0, .int .i64 x.f2.f1, .int .i64 x.f3] 87 (0, 0)) := by rw [hW]; exact blk_new wr _
      have hb1 : Below wr.heap.size wr W := by rw [hW]; repeat (first | exact Below.refl _ _ | apply below_alloc | refine below_set ?_ (by simp))
      clear hW
      generalize hX : wr.heap.size = X at B0 ⊢
      replace HB := Aside0.mk (bthen HB.out hb1)
      replace HO := Aside0.mk (Kd.R_below HO.out hb1)
      replace HG := Aside0.mk (blk_below HG.out hb1)
      have hWs := hb1.size
      have hXl := blk_lt B0
      have g0 : W.cell? ⟨w.heap.size, 0, none⟩ = some (.int .i64 t.f0) := blk_cell HG.out 0
      have g1 : W.cell? ⟨w.heap.size, 1, none⟩ = some (.int .i64 t.f1) := blk_cell HG.out 1
      have b0 : W.cell? ⟨X, 0, none⟩ = some (.int .i64 x.f0) := blk_cell B0 0
      have b1 : W.cell? ⟨X, 1, none⟩ = some (.int .i64 x.f1) := blk_cell B0 1
      have b2 : W.cell? ⟨X, 2, none⟩ = some (.int .i64 x.f2.f0) := blk_cell B0 2
      have b3 : W.cell? ⟨X, 3, none⟩ = some (.int .i64 x.f2.f1) := blk_cell B0 3
      have b4 : W.cell? ⟨X, 4, none⟩ = some (.int .i64 x.f3) := blk_cell B0 4
      clear h0 h1 h2 h3 h4 hb1 hX
      cases hbw : below x.f2 t
      · have TL : ∀ W, Calls Try.prog 181 #[.agg #[.int .i64 x.f2.f0, .int .i64 x.f2.f1], .agg #[.int .i64 t.f0, .int .i64 t.f1]] W (RetV W (.bool false)) := fun W => by
          have := impl_below x.f2.f0 x.f2.f1 t.f0 t.f1 W
          rw [show below ⟨x.f2.f0, x.f2.f1⟩ ⟨t.f0, t.f1⟩ = false from hbw] at this
          exact this
        have HW := Aside0.mk hbw
        clear hbw
        go_wp2_with (go_at_call 181; ((with_reducible refine (TL _).mono ?_); rintro e w' ⟨rfl, hb⟩; replace HB := Aside0.mk (bthen HB.out hb); replace HO := Aside0.mk (Kd.R_below HO.out hb); replace HG := Aside0.mk (blk_below HG.out hb); clear hb))
        go_roundw
        case rel => exact ⟨k + 1, by omega, by go_num, ⟨by rw [presentOf_snoc HX.out, HW.out]; simpa using HO.out⟩, HG, HB⟩
        case measure => simp [intOf]; omega
      · have TL : ∀ W, Calls Try.prog 181 #[.agg #[.int .i64 x.f2.f0, .int .i64 x.f2.f1], .agg #[.int .i64 t.f0, .int .i64 t.f1]] W (RetV W (.bool true)) := fun W => by
          have := impl_below x.f2.f0 x.f2.f1 t.f0 t.f1 W
          rw [show below ⟨x.f2.f0, x.f2.f1⟩ ⟨t.f0, t.f1⟩ = true from hbw] at this
          exact this
        have HW := Aside0.mk hbw
        clear hbw
        go_wp2_with (first | (go_at_call 181; ((with_reducible refine (TL _).mono ?_); rintro e w' ⟨rfl, hb⟩; replace HB := Aside0.mk (bthen HB.out hb); replace HO := Aside0.mk (Kd.R_below HO.out hb); replace b0 := pw_cell_below hb b0; replace b1 := pw_cell_below hb b1; replace b4 := pw_cell_below hb b4; replace HG := Aside0.mk (blk_below HG.out hb); clear hb)) | (at_builtin; refine appIt (w0 := w) (base := w.heap.size) (xs := presentOf (l.take k) t) (ok := fun q => q ≠ w.heap.size) rfl rfl rfl HO.out (fun q hq => by have := HB.out.size; have := blk_lt HG.out; omega) HB.out HB.out.size (by omega) ?_; intro v1 w1 hr1 hb1 hg1 ha1; have HO2 := Aside0.mk hr1; replace HG := Aside0.mk (blk_app HO.out hg1 HG.out (fun e => e rfl)); replace HB := Aside0.mk hb1; clear hr1 hb1 hg1 ha1))
        go_roundw
        case rel => exact ⟨k + 1, by omega, by go_num, ⟨by rw [presentOf_snoc HX.out, HW.out]; exact HO2.out⟩, HG, HB⟩
        case measure => simp [intOf]; omega
    · obtain rfl : k = l.length := by omega
      rw [List.take_length] at HO
      have hpl := presentOf_len l t
      go_wp2_with (go_at_call 195; ((with_reducible refine (impl_gathered _ (presentOf l t) _ (Sl.of_R HO.out) hfit.out (by omega)).mono ?_); rintro e w' ⟨u, rfl, hr, hb⟩; have HF := Aside0.mk (Kd.R_lower hr HB.out.size); replace HB := Aside0.mk (bthen HB.out hb); clear hr hb))
      go_ret
      exact RetR.mk HF.out HB.out
end Go.Proofs.Ythljcnlmeefcjaa.X

