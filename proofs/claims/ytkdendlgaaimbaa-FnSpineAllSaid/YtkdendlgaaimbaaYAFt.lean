/- Conditions: none. -/
import Derived.Test.YtkdendlgaaimbaaYASb
import Derived.Test.YtkdendlgaaimbaaYALw
import Derived.RegionTactic
import Derived.BigRegion
namespace Go.Proofs.Ytkdendlgaaimbaa.X
open Go.RowKit Go.WideElems Go.MapKept Go.ChangeMaps Go.ChangeShapes Go.WideShapes Go.Proofs.YtkdendlgaaimbaaW.PrintWords
open Go.WideMaps (KeyLaw)
open Go.Maps (Keyed)
set_option linter.unusedVariables false
set_option linter.unusedSimpArgs false
def allTm : List Tm := (List.range 64).map fun n => ⟨((n / 8 : Nat) : Int), ((n % 8 : Nat) : Int)⟩
theorem allTm_len : allTm.length = 64 := by simp [allTm]
theorem allTm_at {a b : Nat} (ha : a < 8) (hb : b < 8) : allTm[8 * a + b]? = some ⟨(a : Int), (b : Int)⟩ := by
 unfold allTm
 rw [List.getElem?_map, List.getElem?_range (by omega)]
 simp only [Option.map_some]
 rw [show (8 * a + b) / 8 = a by omega, show (8 * a + b) % 8 = b by omega]
theorem allTm_ok : ∀ t ∈ allTm, tOk t = true := fun t ht => by
 unfold allTm at ht
 obtain ⟨n, hn, rfl⟩ := List.mem_map.1 ht
 have := List.mem_range.1 hn
 simp only [tOk, Bool.and_eq_true, decide_eq_true_eq]; omega
set_option maxRecDepth 100000 in
set_option maxHeartbeats 4000000 in
theorem laws_lwAll (w : World) : Calls Try.prog 35 #[] w (RetR kTm 43 w allTm) := by
 have HN := Aside0.mk (R_none (d := kTm) (e := 43) (base := w.heap.size) (ok := okT) (blk_new w (.cells #[] 43)) (Nat.le_refl _) trivial)
 have HB := Aside0.mk (Below.refl w.heap.size w)
 go_enter Try.func35, Try.ntmps35
 replace HB := Aside0.mk (below_alloc HB.out (.cells #[] 43))
 go_wp2
 go_loopw [1, 2] (fun o i wr => ∃ (k : Nat), k ≤ 8 ∧ i = .int .i64 k ∧ Aside0 (kTm.R 43 wr w.heap.size okT o (allTm.take (8 * k))) ∧ Aside0 (Below w.heap.size w wr)) (fun _ i _ => 8 - (intOf i).toNat)
 case atStart => exact ⟨0, Nat.zero_le _, rfl, HN, HB⟩
 case round =>
  clear HB HN
  obtain ⟨k, hk, rfl, HO, HB⟩ := hrel
  by_cases hlt : k < 8
  ·have hlt' : (k : Int) ≤ 7 := by omega
   go_wp2
   go_loopw [1, 3] (fun o i wr => ∃ (j : Nat), j ≤ 8 ∧ i = .int .i64 j ∧ Aside0 (kTm.R 43 wr w.heap.size okT o (allTm.take (8 * k + j))) ∧ Aside0 (Below w.heap.size w wr)) (fun _ i _ => 8 - (intOf i).toNat)
   case atStart => exact ⟨0, Nat.zero_le _, rfl, HO, HB⟩
   case round =>
    clear HO HB
    obtain ⟨j, hj, rfl, HO, HB⟩ := hrel
    have hpl : (allTm.take (8 * k + j)).length ≤ 64 := by rw [List.length_take, allTm_len]; omega
    by_cases hlt2 : j < 8
    ·have hlt3 : (j : Int) ≤ 7 := by omega
     go_wp2_with (at_builtin; refine appTm (w0 := w) (base := w.heap.size) (xs := allTm.take (8 * k + j)) (ok := okT) rfl rfl rfl HO.out (fun _ _ => trivial) HB.out (by have := HB.out.size; omega) (by omega) ?_; intro v1 w1 hr1 hb1 hg1 ha1; have HO2 := Aside0.mk hr1; have HG_ := Aside0.mk hg1; replace HB := Aside0.mk hb1; clear hr1 hb1 hg1 ha1)
     go_roundw
     case rel => exact ⟨j + 1, by omega, by go_num, ⟨by rw [← Nat.add_assoc, take_snoc (allTm_at hlt hlt2)]; exact HO2.out⟩, HB⟩
     case measure => simp [intOf]; omega
    ·obtain rfl : j = 8 := by omega
     go_wp2
     go_roundw
     case rel => exact ⟨k + 1, by omega, by go_num, ⟨by rw [Nat.mul_add]; exact HO.out⟩, HB⟩
     case measure => simp [intOf]; omega
  ·obtain rfl : k = 8 := by omega
   rw [List.take_of_length_le (by rw [allTm_len]; omega)] at HO
   go_wp2
   go_ret
   exact RetR.mk HO.out HB.out
end Go.Proofs.Ytkdendlgaaimbaa.X
namespace Go.Proofs.Ytkdendlgaaimbaa.X
open Go.RowKit Go.WideElems Go.MapKept Go.ChangeMaps Go.ChangeShapes Go.WideShapes Go.Proofs.YtkdendlgaaimbaaW.PrintWords
open Go.WideMaps (KeyLaw)
open Go.Maps (Keyed)
set_option linter.unusedVariables false
set_option linter.unusedSimpArgs false
theorem tJoin_okk {s t : Tm} (hs : tOk s = true) (ht : tOk t = true) : tOk (tJoin s t) = true := by
 unfold tJoin; rw [hs, ht]
 simp only [tOk, Bool.and_eq_true, decide_eq_true_eq] at hs ht
 simp only [Bool.and_self, if_true, tOk, tmax, Bool.and_eq_true, decide_eq_true_eq]
 split <;> split <;> omega
end Go.Proofs.Ytkdendlgaaimbaa.X
namespace Go.Proofs.Ytkdendlgaaimbaa.X
open Go.RowKit Go.Proofs.YtkdendlgaaimbaaW.PrintWords
set_option linter.unusedVariables false
set_option linter.unusedSimpArgs false
end Go.Proofs.Ytkdendlgaaimbaa.X
