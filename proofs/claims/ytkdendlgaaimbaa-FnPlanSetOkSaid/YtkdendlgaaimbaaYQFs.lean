/- Conditions: none. -/
import Derived.Test.YtkdendlgaaimbaaYCPl
import Derived.Test.YtkdendlgaaimbaaYQPl
import Derived.Test.YtkdendlgaaimbaaYQSb
import Derived.Test.YtkdendlgaaimbaaYQLw
import Derived.RegionTactic
import Derived.BigRegion
import Derived.Test.YtkdendlgaaimbaaYQDrawRows
namespace Go.Proofs.Ytkdendlgaaimbaa.X
open Go.RowKit
set_option linter.unusedVariables false
set_option linter.unusedSimpArgs false
end Go.Proofs.Ytkdendlgaaimbaa.X
namespace Go.Proofs.Ytkdendlgaaimbaa.X
open Go.RowKit
set_option linter.unusedVariables false
set_option linter.unusedSimpArgs false
def countedL (s : List It) : List It := (List.range 4).flatMap fun k : Nat => if keyC s (k : Int) = 0 then [] else [⟨(k : Int), cval (keyC s (k : Int)), 1⟩]
def aggL (s : List It) (kind : Int) : List It := if kind = 1 then countedL s else if kind = 2 then onceL s else leastL s
end Go.Proofs.Ytkdendlgaaimbaa.X
namespace Go.Proofs.Ytkdendlgaaimbaa.X
open Go.RowKit Go.Proofs.YtkdendlgaaimbaaW.PrintWords
set_option linter.unusedVariables false
set_option linter.unusedSimpArgs false
def countedN (s : List It) (n : Nat) : List It := (List.range n).flatMap fun k : Nat => if keyC s (k : Int) = 0 then [] else [⟨(k : Int), cval (keyC s (k : Int)), 1⟩]
theorem countedN_succ (s : List It) (n : Nat) : countedN s (n + 1) = countedN s n ++ (if keyC s (n : Int) = 0 then [] else [⟨(n : Int), cval (keyC s (n : Int)), 1⟩]) := by
 unfold countedN; rw [List.range_succ, List.flatMap_append]; simp
theorem countedN_len (s : List It) : ∀ n, (countedN s n).length ≤ n
 | 0 => by simp [countedN]
 | n + 1 => by
  have := countedN_len s n
  rw [countedN_succ, List.length_append]
  split <;> simp <;> omega
set_option maxRecDepth 100000 in
set_option maxHeartbeats 4000000 in
theorem impl_counted (v : Value) (s : List It) (w : World) (h : Sl kIt w v s) (hm0 : massI s < 4611686018427387904) (hl1 : s.length ≤ 100000) : Calls Try.prog 185 #[v] w (RetR kIt 118 w (countedL s)) := by
 obtain ⟨A, c_, rfl, HC, hr⟩ := h
 have hm := Kd.C_max hr
 have HR := Aside0.mk hr
 clear hr
 have HN := Aside0.mk (R_none (d := kIt) (e := 118) (base := w.heap.size) (ok := okT) (blk_new w (.cells #[] 118)) (Nat.le_refl _) trivial)
 have HB := Aside0.mk (Below.refl w.heap.size w)
 go_enter Try.func185, Try.ntmps185
 replace HB := Aside0.mk (below_alloc HB.out (.cells #[] 118))
 go_wp2
 go_loopw [3, 4] (fun o i wr => ∃ (k : Nat), k ≤ 4 ∧ i = .int .i64 k ∧ Aside0 (kIt.R 118 wr w.heap.size okT o (countedN s k)) ∧ Aside0 (Below w.heap.size w wr)) (fun _ i _ => 4 - (intOf i).toNat)
 case atStart => exact ⟨0, Nat.zero_le _, rfl, HN, HB⟩
 case round =>
  clear HB HN
  obtain ⟨k, hk, rfl, HO, HB⟩ := hrel
  by_cases hlt : k < 4
  ·have hlt' : (k : Int) < 4 := by omega
   go_wp2
   go_loopw [5, 15] (fun n i wr => ∃ (j : Nat), j ≤ s.length ∧ i = .int .i64 j ∧ n = .int .i64 (keyC (s.take j) (k : Int)) ∧ Aside0 (kIt.R 118 wr w.heap.size okT _ (countedN s k)) ∧ Aside0 (Below w.heap.size w wr)) (fun _ i _ => s.length - (intOf i).toNat)
   case atStart => exact ⟨0, Nat.zero_le _, rfl, by simp [keyC, sg], HO, HB⟩
   case round =>
    clear HO HB
    obtain ⟨j, hj, rfl, rfl, HO, HB⟩ := hrel
    by_cases hlt2 : j < s.length
    ·obtain ⟨ad, x, e, HX, h0, h1, h2⟩ := rdIt HR.out HB.out hlt2
     cases e
     have HC := Aside0.mk (keyC_snoc HX.out (k : Int))
     have hc1 := keyC_abs (s.take j) (k : Int)
     have hc2 := massI_take s j
     have hx2 := massI_mem (List.mem_of_getElem? HX.out)
     go_upto_region 9 with fail
     refine name_world fun W hW => ?_
     have B0 : W.heap[wr.heap.size]? = some (.cells #[.int .i64 x.f0, .int .i64 x.f1, .int .i64 x.f2] 118 (0, 0)) := by rw [hW]; exact blk_new wr _
     have hb1 : Below wr.heap.size wr W := by rw [hW]; repeat (first | exact Below.refl _ _ | apply below_alloc | refine below_set ?_ (by simp))
     clear hW
     generalize hX : wr.heap.size = X at B0 ⊢
     replace HB := Aside0.mk (bthen HB.out hb1)
     replace HO := Aside0.mk (Kd.R_below HO.out hb1)
     have b0 : W.cell? ⟨X, 0, none⟩ = some (.int .i64 x.f0) := blk_cell B0 0
     have b2 : W.cell? ⟨X, 2, none⟩ = some (.int .i64 x.f2) := blk_cell B0 2
     clear h0 h1 h2 hb1 hX B0
     by_cases hd : x.f0 = (k : Int)
     ·have hdb : (x.f0 == (k : Int)) = true := by simpa using hd
      have HD := Aside0.mk hd
      clear hd
      go_wp2
      go_roundw
      case rel => exact ⟨j + 1, by omega, by go_num, by rw [HC.out, if_pos HD.out], HO, HB⟩
      case measure => simp [intOf]; omega
     ·have hdb : (x.f0 == (k : Int)) = false := by simpa using hd
      have HD := Aside0.mk hd
      clear hd
      go_wp2
      go_roundw
      case rel => exact ⟨j + 1, by omega, by go_num, by rw [HC.out, if_neg HD.out, Int.add_zero], HO, HB⟩
      case measure => simp [intOf]; omega
    ·obtain rfl : j = s.length := by omega
     rw [List.take_length]
     have hws := HB.out.size
     have hcl := countedN_len s k
     have hcs := Aside0.mk (countedN_succ s k)
     cases hz : (keyC s (k : Int) == 0)
     ·have HZ := Aside0.mk (show ¬ keyC s (k : Int) = 0 by simpa using hz)
      have hz2 : (keyC s (k : Int) != 0) = true := by rw [bne, hz]; rfl
      go_wp2_with (at_builtin; refine appIt (w0 := w) (base := w.heap.size) (xs := countedN s k) (ok := okT) rfl rfl rfl HO.out (fun _ _ => trivial) HB.out (by have := HB.out.size; omega) (by omega) ?_; intro v1 w1 hr1 hb1 hg1 ha1; have HO2 := Aside0.mk hr1; have HG_ := Aside0.mk hg1; replace HB := Aside0.mk hb1; clear hr1 hb1 hg1 ha1)
      go_roundw
      case rel => exact ⟨k + 1, by omega, by go_num, ⟨by rw [hcs.out, if_neg HZ.out]; exact HO2.out⟩, HB⟩
      case measure => simp [intOf]; omega
     ·have HZ := Aside0.mk (show keyC s (k : Int) = 0 by simpa using hz)
      have hz2 : (keyC s (k : Int) != 0) = false := by rw [bne, hz]; rfl
      go_wp2
      go_roundw
      case rel => exact ⟨k + 1, by omega, by go_num, ⟨by rw [hcs.out, if_pos HZ.out, List.append_nil]; exact HO.out⟩, HB⟩
      case measure => simp [intOf]; omega
  ·obtain rfl : k = 4 := by omega
   go_wp2
   go_ret
   exact RetR.mk HO.out HB.out
set_option maxRecDepth 100000 in
set_option maxHeartbeats 2000000 in
theorem impl_aggregate (v : Value) (s : List It) (kind : Int) (w : World) (h : Sl kIt w v s) (hm0 : massI s < 4611686018427387904) (hl1 : s.length ≤ 100000) : Calls Try.prog 159 #[v, .int .i64 kind] w (RetR kIt 118 w (aggL s kind)) := by
 have HS := Aside0.mk h
 by_cases h1 : kind = 1
 ·subst h1
  have HB := Aside0.mk (Below.refl w.heap.size w)
  go_enter Try.func159, Try.ntmps159
  go_wp2_with (go_at_call 185; ((with_reducible refine (impl_counted _ s _ (HS.out.below HB.out) hm0 hl1).mono ?_); rintro e w' ⟨u, rfl, hr, hb⟩; have HF := Aside0.mk (Kd.R_lower hr HB.out.size); replace HB := Aside0.mk (bthen HB.out hb); clear hr hb))
  go_ret
  exact RetR.mk HF.out HB.out
 ·by_cases h2 : kind = 2
  ·subst h2
   have HB := Aside0.mk (Below.refl w.heap.size w)
   go_enter Try.func159, Try.ntmps159
   go_wp2_with (go_at_call 186; ((with_reducible refine (impl_once _ s _ (HS.out.below HB.out) hl1).mono ?_); rintro e w' ⟨u, rfl, hr, hb⟩; have HF := Aside0.mk (Kd.R_lower hr HB.out.size); replace HB := Aside0.mk (bthen HB.out hb); clear hr hb))
   go_ret
   exact RetR.mk HF.out HB.out
  ·have q1 : (kind == 1) = false := by simp [h1]
   have q2 : (kind == 2) = false := by simp [h2]
   have HE := Aside0.mk (show aggL s kind = leastL s by unfold aggL; rw [if_neg h1, if_neg h2])
   have HB := Aside0.mk (Below.refl w.heap.size w)
   go_enter Try.func159, Try.ntmps159
   go_wp2_with (go_at_call 187; ((with_reducible refine (impl_leastOf _ s _ (HS.out.below HB.out) hl1).mono ?_); rintro e w' ⟨u, rfl, hr, hb⟩; have HF := Aside0.mk (Kd.R_lower hr HB.out.size); replace HB := Aside0.mk (bthen HB.out hb); clear hr hb))
   go_ret
   exact RetR.mk (by rw [HE.out]; exact HF.out) HB.out
end Go.Proofs.Ytkdendlgaaimbaa.X
