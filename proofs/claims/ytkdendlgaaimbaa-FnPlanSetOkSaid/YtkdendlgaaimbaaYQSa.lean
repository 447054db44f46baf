/- Conditions: none. -/
import Derived.Test.YtkdendlgaaimbaaYQLb
import Derived.Deep.QuietTactic
import Derived.BigQuiet
import Derived.Test.YtkdendlgaaimbaaYCMg
import Derived.Test.YtkdendlgaaimbaaYCBs
import Derived.Test.YtkdendlgaaimbaaYQBs
import Derived.WideKeyEntry
import Derived.Maps.RangeWalk
import Derived.Maps.OwnOps
import Derived.Maps.Ext
import Derived.DeepKeys4
import Derived.MapViews
import Derived.Test.YtkdendlgaaimbaaYCSo
import Derived.Shelf.SlSortFuncK.WholeK
import Derived.Shelf.GgSortFunc.Tiny
import Derived.Test.YtkdendlgaaimbaaProg
import Derived.Sort.LotA
import Derived.Sort.OwnSorted
import Derived.Shelf.SlSortFuncK.ComposeK
import Derived.Shelf.GgSortFunc.SmallK
import Derived.Shelf.GgSortFunc.LotD
import Derived.Sort.WalkB3
import Derived.Below
import Derived.Test.YtkdendlgaaimbaaYCPl
import Derived.Test.YtkdendlgaaimbaaYQPl
import Derived.RegionTactic
import Derived.BigRegion
import Derived.Test.YtkdendlgaaimbaaYCSr
import Derived.Test.YtkdendlgaaimbaaYCSrtB
import Derived.Sort.Walk11
import Derived.Sort.LotD1
import Derived.Sort.LotD4
import Derived.Test.YtkdendlgaaimbaaYCSq
import Derived.Sort.WalkA6
import Derived.Sort.WalkB2
import Derived.Sort.WalkC4
import Derived.Deep.LoopGhost
import Derived.Shelf.SlSortFuncK.BreakPatternsK
import Derived.Sort.Walk13
import Derived.Sort.AssemblyPlain
import Derived.OwnWalk
namespace Go.Proofs.Ytkdendlgaaimbaa.X
open Go.RowKit Go.Proofs.YtkdendlgaaimbaaW.PrintWords
set_option linter.unusedVariables false
set_option linter.unusedSimpArgs false
theorem wrapI (n : Int) : IntKind.i64.wrap n = wrap64 n := by unfold wrap64; exact IntKind.wrap_i64 n
theorem blk_grown {W w1 : World} {X : Nat} {o : Obj} {r : Option Nat} (h : W.heap[X]? = some o) (hg : W.grownBy w1 r) (hne : some X ≠ r) : w1.heap[X]? = some o := (hg.block X (blk_lt h) hne).trans h
section
variable {α : Type} {d : Kd α} {e : Nat} {w w1 : World} {base X : Nat} {ok ok' : Nat → Prop} {v : Value} {xs : List α}
theorem R_apart (h : d.R e w base ok v xs) (hX : ¬ ok X) : some X ≠ v.ownBlock := fun e => hX (h.1 X e.symm)
theorem R_ge (h : d.R e w base ok v xs) {g : Nat} (hv : v.ownBlock = some g) : base ≤ g := ((Kd.R_bound h).1 g hv).2.1
theorem R_new (h : d.R e w base ok v xs) (hX : w.heap.size ≤ X) (hok : ∀ q, ok q → q < X → ok' q) : d.R e w base ok' v xs := Kd.R_mono (Kd.R_bound h) (fun q hq => hok q hq.1 (by have := hq.2.2.1; omega))
theorem blk_app {o : Obj} (h : d.R e w base ok v xs) (hg : w.grownBy w1 v.ownBlock) (hb : w.heap[X]? = some o) (hX : ¬ ok X) : w1.heap[X]? = some o := blk_grown hb hg (R_apart h hX)
theorem cell_app {a : Addr} {u : Value} (h : d.R e w base ok v xs) (hg : w.grownBy w1 v.ownBlock) (hc : w.cell? a = some u) (ha : a.block < base ∨ ¬ ok a.block) : w1.cell? a = some u := by
 have hne : some a.block ≠ v.ownBlock := fun e => ha.elim (fun hl => by have := R_ge h e.symm; omega) (fun hn => hn (h.1 _ e.symm))
 have hl := World.block_lt_of_cell? w _ hc
 have hb := hg.block a.block hl hne
 unfold World.cell? at hc ⊢
 rw [hb]; exact hc
end
theorem add_blk (ad : Addr) (n : Nat) : (ad.add n).block = ad.block := by unfold Addr.add; first | rfl | (split <;> rfl) | (cases ad; simp)
theorem itLt {w : World} {ad : Addr} {xs : List It} (h : kIt.C w (some ad) xs.length xs) {k : Nat} (hk : k < xs.length) : ad.block < w.heap.size := by
 obtain ⟨ad', x, e, HX, h0, _⟩ := rdIt h (Below.refl _ _) hk
 cases e
 exact add_blk ad (k * 3) ▸ World.block_lt_of_cell? w (ad.add (k * 3)) h0
end Go.Proofs.Ytkdendlgaaimbaa.X
namespace Go.Proofs.Ytkdendlgaaimbaa.X
open Go.RowKit Go.Proofs.YtkdendlgaaimbaaW.PrintWords
set_option linter.unusedVariables false
set_option linter.unusedSimpArgs false
theorem wf_of {a : Int} (h0 : -9223372036854775808 ≤ a) (h1 : a ≤ 9223372036854775807) : wfI a := (wfI_iff a).2 (by omega)
theorem sOk_of {l : List It} (h : setOk l = true) : ∀ x ∈ l, 0 ≤ x.f0 ∧ x.f0 ≤ 3 ∧ 0 ≤ x.f1 ∧ x.f1 ≤ 99 ∧ x.f2 ≠ 0 ∧ -1099511627776 ≤ x.f2 ∧ x.f2 ≤ 1099511627776 := fun x hx => by
 obtain ⟨h1, h2, h3⟩ := setOk_canon h
 have := h2 x hx
 have := h1.2 x hx
 unfold keyOk at *
 omega
theorem setOk_len {l : List It} (h : setOk l = true) : l.length ≤ 400 := (setOk_canon h).2.2
theorem setOk_fit {l : List It} (h : setOk l = true) : ∀ x ∈ l, wfI x.f0 ∧ wfI x.f1 ∧ wfI x.f2 := fun x hx => by
 have := sOk_of h x hx
 exact ⟨wf_of (by omega) (by omega), wf_of (by omega) (by omega), wf_of (by omega) (by omega)⟩
set_option maxRecDepth 100000 in
set_option maxHeartbeats 400000 in
theorem impl_joinedVal (a b : Int) (w : World) : Calls Try.prog 184 #[.int .i64 a, .int .i64 b] w (fun e w' => e = .returned (.int .i64 (jval a b)) ∧ w = w') := by
 go_enter Try.func184, Try.ntmps184
 go_wp2
 go_ret
 exact ⟨rfl, rfl⟩
set_option maxRecDepth 100000 in
set_option maxHeartbeats 400000 in
theorem spec_l3Pair (a b : Int) (w : World) : Calls Try.prog 179 #[.int .i64 a, .int .i64 b] w (fun e w' => e = .returned (.int .i64 (jval a b)) ∧ w = w') := by
 go_enter Try.func179, Try.ntmps179
 go_wp2
 go_ret
 exact ⟨by unfold jval; rw [Int.mul_comm]; rfl, rfl⟩
set_option maxRecDepth 100000 in
set_option maxHeartbeats 2000000 in
theorem impl_SetBoth (v v2 : Value) (s t : List It) (w : World) (h : Sl kIt w v s) (h2 : Sl kIt w v2 t) : Calls Try.prog 156 #[v, v2] w (RetR kIt 118 w (setBoth s t)) := by
 have HS := Aside0.mk h
 have HT := Aside0.mk h2
 obtain ⟨A, c_, rfl, HC, hr⟩ := h
 have hm := Kd.C_max hr
 have HR := Aside0.mk hr
 clear hr
 obtain ⟨A2, c2_, rfl, HC2, hr2⟩ := h2
 have hm2 := Kd.C_max hr2
 have HR2 := Aside0.mk hr2
 clear hr2
 cases hs : setOk s
 ·have HB := Aside0.mk (Below.refl w.heap.size w)
  go_enter Try.func156, Try.ntmps156
  go_wp2_with (go_at_call 43; ((with_reducible refine (impl_SetOk _ s _ HS.out).mono ?_); rintro e w' ⟨rfl, hb⟩; replace HB := Aside0.mk (bthen HB.out hb); clear hb))
  go_ret
  exact RetR.mk (by rw [setBoth, hs]; exact Kd.R_nil _ _ _ _ _) HB.out
 ·cases ht : setOk t
  ·have HB := Aside0.mk (Below.refl w.heap.size w)
   go_enter Try.func156, Try.ntmps156
   go_wp2_with (first | (go_at_call 43; ((with_reducible refine (impl_SetOk (.slice A s.length c_) s _ (HS.out.below HB.out)).mono ?_); rintro e w' ⟨rfl, hb⟩; replace HB := Aside0.mk (bthen HB.out hb); clear hb)) | (go_at_call 43; ((with_reducible refine (impl_SetOk _ t _ (HT.out.below HB.out)).mono ?_); rintro e w' ⟨rfl, hb⟩; replace HB := Aside0.mk (bthen HB.out hb); clear hb)))
   go_ret
   exact RetR.mk (by rw [setBoth, hs, ht]; exact Kd.R_nil _ _ _ _ _) HB.out
  ·have hl1 := setOk_len hs
   have hl2 := setOk_len ht
   have hfit : Aside0 (∀ x ∈ s ++ t, wfI x.f0 ∧ wfI x.f1 ∧ wfI x.f2) := ⟨fun x hx => (List.mem_append.1 hx).elim (setOk_fit hs x) (setOk_fit ht x)⟩
   have HB := Aside0.mk (Below.refl w.heap.size w)
   go_enter Try.func156, Try.ntmps156
   go_wp2_with (first
    | (go_at_call 43; ((with_reducible refine (impl_SetOk (.slice A s.length c_) s _ (HS.out.below HB.out)).mono ?_); rintro e w' ⟨rfl, hb⟩; replace HB := Aside0.mk (bthen HB.out hb); clear hb))
    | (go_at_call 43; ((with_reducible refine (impl_SetOk (.slice A2 t.length c2_) t _ (HT.out.below HB.out)).mono ?_); rintro e wb ⟨rfl, hb⟩; replace HB := Aside0.mk (bthen HB.out hb); (have HN := Aside0.mk (R_none (d := kIt) (e := 118) (base := w.heap.size) (ok := okT) (blk_new wb (.cells #[] 118)) HB.out.size trivial); replace HB := Aside0.mk (below_alloc HB.out (.cells #[] 118))); clear hb))
    | (at_builtin; refine appsIt (w0 := w) (base := w.heap.size) (xs := []) (ys := s) (ok := okT) rfl rfl (HS.out.below HB.out) HN.out (fun _ _ => trivial) HB.out HB.out.size (by first | omega | (simp; omega)) ?_; intro v1 w' hr1 hb1 hg1 ha1; have HN1 := Aside0.mk hr1; replace HB := Aside0.mk hb1; clear hr1 hb1 hg1 ha1)
    | (at_builtin; refine appsIt (w0 := w) (base := w.heap.size) (xs := [] ++ s) (ys := t) (ok := okT) rfl rfl (HT.out.below HB.out) HN1.out (fun _ _ => trivial) HB.out HB.out.size (by first | omega | (simp; omega)) ?_; intro v2 w' hr1 hb1 hg1 ha1; have HN2 := Aside0.mk hr1; replace HB := Aside0.mk hb1; clear hr1 hb1 hg1 ha1)
    | (go_at_call 141; ((with_reducible refine (impl_gathered _ (s ++ t) _ (Sl.of_R HN2.out) hfit.out (by simp; omega)).mono ?_); rintro e w' ⟨u, rfl, hr, hb⟩; have HF := Aside0.mk (Kd.R_lower hr HB.out.size); replace HB := Aside0.mk (bthen HB.out hb); clear hr hb)))
   go_ret
   exact RetR.mk (by rw [setBoth, hs, ht]; exact HF.out) HB.out
end Go.Proofs.Ytkdendlgaaimbaa.X
namespace Go.Proofs.Ytkdendlgaaimbaa.X
open Go.RowKit Go.Proofs.YtkdendlgaaimbaaW.PrintWords
set_option linter.unusedVariables false
set_option linter.unusedSimpArgs false
def jrow (x : It) (t : List It) : List It := (t.filter fun y => decide (x.f0 = y.f0)).map (pairI x)
theorem pairs_snoc {s : List It} {k : Nat} {x : It} (hx : s[k]? = some x) (t : List It) : pairs (s.take (k + 1)) t = pairs (s.take k) t ++ jrow x t := by
 rw [take_snoc hx]; unfold pairs; rw [List.flatMap_append]; simp [jrow]
theorem jrow_snoc {t : List It} {k : Nat} {y : It} (hy : t[k]? = some y) (x : It) : jrow x (t.take (k + 1)) = jrow x (t.take k) ++ (if x.f0 = y.f0 then [pairI x y] else []) := by
 rw [take_snoc hy]; unfold jrow; rw [List.filter_append, List.map_append]
 by_cases h : x.f0 = y.f0 <;> simp [h]
theorem jrow_len (x : It) (t : List It) : (jrow x t).length ≤ t.length := by unfold jrow; rw [List.length_map]; exact List.length_filter_le _ _
theorem pairs_len (t : List It) : ∀ s : List It, (pairs s t).length ≤ t.length * s.length := fun s => len_flatMap fun x _ => jrow_len x t
theorem pairs_fit {s t : List It} (hs : setOk s = true) (ht : setOk t = true) : ∀ y ∈ pairs s t, wfI y.f0 ∧ wfI y.f1 ∧ wfI y.f2 := fun z hz => by
 obtain ⟨x, hx, hz⟩ := List.mem_flatMap.1 hz
 obtain ⟨y, hy, rfl⟩ := List.mem_map.1 hz
 have h1 := sOk_of hs x hx
 have h2 := sOk_of ht y (List.mem_filter.1 hy).1
 unfold pairI
 simp only
 rw [jval_eq (by omega) (by omega) (by omega) (by omega)]
 exact ⟨wf_of (by omega) (by omega), wf_of (by omega) (by omega), wf_of (by unfold wrap64; omega) (by unfold wrap64; omega)⟩
set_option maxRecDepth 100000 in
set_option maxHeartbeats 4000000 in
theorem impl_SetJoin (v v2 : Value) (s t : List It) (w : World) (h : Sl kIt w v s) (h2 : Sl kIt w v2 t) : Calls Try.prog 158 #[v, v2] w (RetR kIt 118 w (setJoin s t)) := by
 have HS := Aside0.mk h
 have HT := Aside0.mk h2
 obtain ⟨A, c_, rfl, HC, hr⟩ := h
 have hm := Kd.C_max hr
 have HR := Aside0.mk hr
 clear hr
 obtain ⟨A2, c2_, rfl, HC2, hr2⟩ := h2
 have hm2 := Kd.C_max hr2
 have HR2 := Aside0.mk hr2
 clear hr2
 cases hs : setOk s
 ·have HB := Aside0.mk (Below.refl w.heap.size w)
  go_enter Try.func158, Try.ntmps158
  go_wp2_with (go_at_call 43; ((with_reducible refine (impl_SetOk _ s _ HS.out).mono ?_); rintro e w' ⟨rfl, hb⟩; replace HB := Aside0.mk (bthen HB.out hb); clear hb))
  go_ret
  exact RetR.mk (by rw [setJoin, hs]; exact Kd.R_nil _ _ _ _ _) HB.out
 ·cases ht : setOk t
  ·have HB := Aside0.mk (Below.refl w.heap.size w)
   go_enter Try.func158, Try.ntmps158
   go_wp2_with (first | (go_at_call 43; ((with_reducible refine (impl_SetOk (.slice A s.length c_) s _ (HS.out.below HB.out)).mono ?_); rintro e w' ⟨rfl, hb⟩; replace HB := Aside0.mk (bthen HB.out hb); clear hb)) | (go_at_call 43; ((with_reducible refine (impl_SetOk _ t _ (HT.out.below HB.out)).mono ?_); rintro e w' ⟨rfl, hb⟩; replace HB := Aside0.mk (bthen HB.out hb); clear hb)))
   go_ret
   exact RetR.mk (by rw [setJoin, hs, ht]; exact Kd.R_nil _ _ _ _ _) HB.out
  ·have hl1 := setOk_len hs
   have hl2 := setOk_len ht
   have hfit := Aside0.mk (pairs_fit hs ht)
   have HB := Aside0.mk (Below.refl w.heap.size w)
   go_enter Try.func158, Try.ntmps158
   go_wp2_with (first
    | (go_at_call 43; ((with_reducible refine (impl_SetOk (.slice A s.length c_) s _ (HS.out.below HB.out)).mono ?_); rintro e w' ⟨rfl, hb⟩; replace HB := Aside0.mk (bthen HB.out hb); clear hb))
    | (go_at_call 43; ((with_reducible refine (impl_SetOk (.slice A2 t.length c2_) t _ (HT.out.below HB.out)).mono ?_); rintro e wb ⟨rfl, hb⟩; replace HB := Aside0.mk (bthen HB.out hb); clear hb)))
   go_loopw [5, 21] (fun o i wr => ∃ (k : Nat), k ≤ s.length ∧ i = .int .i64 k ∧ Aside0 (kIt.R 118 wr w.heap.size okT o (pairs (s.take k) t)) ∧ Aside0 (Below w.heap.size w wr)) (fun _ i _ => s.length - (intOf i).toNat)
   case atStart => exact ⟨0, Nat.zero_le _, rfl, ⟨R_none (blk_new wb _) HB.out.size trivial⟩, ⟨below_alloc HB.out _⟩⟩
   case round =>
    clear HB
    obtain ⟨k, hk, rfl, HO, HB⟩ := hrel
    by_cases hlt : k < s.length
    ·obtain ⟨ad, x, e, HX, h0, h1, h2⟩ := rdIt HR.out HB.out hlt
     cases e
     have hws := HB.out.size
     have hpl : (pairs (s.take k) t).length ≤ 400 * 400 := Nat.le_trans (pairs_len t (s.take k)) (Nat.mul_le_mul hl2 (by rw [List.length_take]; omega))
     go_wp2
     refine name_world fun W1 hW => ?_
     have B0 : W1.heap[wr.heap.size]? = some (.cells #[.int .i64 x.f0, .int .i64 x.f1, .int .i64 x.f2] 118 (0, 0)) := by rw [hW]; exact blk_new wr _
     have hb1 : Below wr.heap.size wr W1 := by rw [hW]; repeat (first | exact Below.refl _ _ | apply below_alloc | refine below_set ?_ (by simp))
     clear hW
     generalize hX : wr.heap.size = X at B0 ⊢
     replace HB := Aside0.mk (bthen HB.out hb1)
     have HO1 := Aside0.mk (Kd.R_below (R_new (ok' := fun q => q ≠ X) HO.out (X := X) (by omega) (fun q _ h2 => by omega)) hb1)
     have hXw : w.heap.size ≤ X := by omega
     clear h0 h1 h2 hb1 hX HO
     go_loopw [5, 27] (fun o i wq => ∃ (j : Nat), j ≤ t.length ∧ i = .int .i64 j ∧ Aside0 (kIt.R 118 wq w.heap.size (fun q => q ≠ X) o (pairs (s.take k) t ++ jrow x (t.take j))) ∧ Aside0 (wq.heap[X]? = some (.cells #[.int .i64 x.f0, .int .i64 x.f1, .int .i64 x.f2] 118 (0, 0))) ∧ Aside0 (Below w.heap.size w wq)) (fun _ i _ => t.length - (intOf i).toNat)
     case atStart => exact ⟨0, Nat.zero_le _, rfl, ⟨by simpa [jrow] using HO1.out⟩, ⟨B0⟩, HB⟩
     case round =>
      clear HO1 HB B0
      obtain ⟨j, hj, rfl, HO, HB0, HB⟩ := hrel
      by_cases hlt2 : j < t.length
      ·obtain ⟨ad2, y, e, HY, i0, i1, i2⟩ := rdIt HR2.out HB.out hlt2
       cases e
       have hwq := HB.out.size
       have hjl := jrow_len x (t.take j)
       have b0 := blk_cell HB0.out 0
       have b1 := blk_cell HB0.out 1
       have b2 := blk_cell HB0.out 2
       have hXl := blk_lt HB0.out
       cases hxy : (x.f0 == y.f0)
       ·go_wp2
        go_roundw
        case rel => exact ⟨j + 1, by omega, by go_num, ⟨by rw [jrow_snoc HY.out, if_neg (by simpa using hxy), List.append_nil]; exact Kd.R_alloc HO.out _⟩, ⟨blk_alloc HB0.out _⟩, ⟨below_alloc HB.out _⟩⟩
        case measure => simp [intOf]; omega
       ·go_wp2
        refine name_world fun W hW => ?_
        have B1 : W.heap[wr.heap.size]? = some (.cells #[.int .i64 y.f0, .int .i64 y.f1, .int .i64 y.f2] 118 (0, 0)) := by rw [hW]; exact blk_new wr _
        have hb1 : Below wr.heap.size wr W := by rw [hW]; repeat (first | exact Below.refl _ _ | apply below_alloc | refine below_set ?_ (by simp))
        clear hW
        generalize hY : wr.heap.size = Y at B1 ⊢
        have HX0 := Aside0.mk (blk_below HB0.out hb1)
        have HO1 := Aside0.mk (Kd.R_below (R_new (ok' := fun q => q ≠ X ∧ q ≠ Y) HO.out (X := Y) (by omega) (fun q h1 h2 => ⟨h1, by omega⟩)) hb1)
        replace HB := Aside0.mk (bthen HB.out hb1)
        have hW0 := HB.out.size
        have hYl := blk_lt B1
        have hXW := blk_lt HX0.out
        clear b0 b1 b2 i0 i1 i2 hb1 HO hY HB0
        have c0 := blk_cell HX0.out 0
        have c1 := blk_cell HX0.out 1
        have c2 := blk_cell HX0.out 2
        have d1 := blk_cell B1 1
        have d2 := blk_cell B1 2
        have HOd := Aside0.mk (R_drew HO1.out)
        go_region_held3 (fun w' => w'.cell? ⟨X, 0, none⟩ = some (.int .i64 x.f0) ∧ w'.cell? ⟨X, 1, none⟩ = some (.int .i64 x.f1) ∧ w'.cell? ⟨X, 2, none⟩ = some (.int .i64 x.f2) ∧ w'.cell? ⟨Y, 1, none⟩ = some (.int .i64 y.f1) ∧ w'.cell? ⟨Y, 2, none⟩ = some (.int .i64 y.f2)) (first | exact ⟨c0, c1, c2, d1, d2⟩ | exact HM | exact ⟨pw_cell_below (by repeat (first | exact Below.refl _ _ | apply below_alloc | apply below_drew | assumption)) c0, pw_cell_below (by repeat (first | exact Below.refl _ _ | apply below_alloc | apply below_drew | assumption)) c1, pw_cell_below (by repeat (first | exact Below.refl _ _ | apply below_alloc | apply below_drew | assumption)) c2, pw_cell_below (by repeat (first | exact Below.refl _ _ | apply below_alloc | apply below_drew | assumption)) d1, pw_cell_below (by repeat (first | exact Below.refl _ _ | apply below_alloc | apply below_drew | assumption)) d2⟩)
         (first
          | (go_at_call 184; ((with_reducible refine (impl_joinedVal _ _ _).mono ?_); rintro e w' ⟨rfl, rfl⟩))
          | (refine stepIt (W := W.drew) (base := w.heap.size) (xs := pairs (s.take k) t ++ jrow x (t.take j)) (ok := fun q => q ≠ X ∧ q ≠ Y) rfl rfl rfl HOd.out (fun q hq => by have : W.drew.heap.size = W.heap.size := rfl; first | trivial | omega | ((try dsimp only); omega)) (by show _ ≤ W.heap.size; omega) (by rw [List.length_append]; rw [List.length_take] at hjl; omega) ?_; intro v1 w1 hr1 hb1 hg1; have HO4 := Aside0.mk hr1; have HB4 := Aside0.mk (below_more (below_drew HB.out) hb1); have HG4 := Aside0.mk hg1; have HM : w1.cell? ⟨X, 0, none⟩ = some (.int .i64 x.f0) ∧ w1.cell? ⟨X, 1, none⟩ = some (.int .i64 x.f1) ∧ w1.cell? ⟨X, 2, none⟩ = some (.int .i64 x.f2) ∧ w1.cell? ⟨Y, 1, none⟩ = some (.int .i64 y.f1) ∧ w1.cell? ⟨Y, 2, none⟩ = some (.int .i64 y.f2) := ⟨cell_app HOd.out hg1 c0 (by first | exact Or.inl (by assumption) | exact Or.inr (fun e => e rfl) | exact Or.inr (fun e => e.1 rfl) | exact Or.inr (fun e => e.2 rfl) | exact Or.inl (Nat.lt_of_lt_of_le (by assumption) (by omega)) | exact Or.inr (by intro e; (try dsimp only at e); omega)), cell_app HOd.out hg1 c1 (by first | exact Or.inl (by assumption) | exact Or.inr (fun e => e rfl) | exact Or.inr (fun e => e.1 rfl) | exact Or.inr (fun e => e.2 rfl) | exact Or.inl (Nat.lt_of_lt_of_le (by assumption) (by omega)) | exact Or.inr (by intro e; (try dsimp only at e); omega)), cell_app HOd.out hg1 c2 (by first | exact Or.inl (by assumption) | exact Or.inr (fun e => e rfl) | exact Or.inr (fun e => e.1 rfl) | exact Or.inr (fun e => e.2 rfl) | exact Or.inl (Nat.lt_of_lt_of_le (by assumption) (by omega)) | exact Or.inr (by intro e; (try dsimp only at e); omega)), cell_app HOd.out hg1 d1 (by first | exact Or.inl (by assumption) | exact Or.inr (fun e => e rfl) | exact Or.inr (fun e => e.1 rfl) | exact Or.inr (fun e => e.2 rfl) | exact Or.inl (Nat.lt_of_lt_of_le (by assumption) (by omega)) | exact Or.inr (by intro e; (try dsimp only at e); omega)), cell_app HOd.out hg1 d2 (by first | exact Or.inl (by assumption) | exact Or.inr (fun e => e rfl) | exact Or.inr (fun e => e.1 rfl) | exact Or.inr (fun e => e.2 rfl) | exact Or.inl (Nat.lt_of_lt_of_le (by assumption) (by omega)) | exact Or.inr (by intro e; (try dsimp only at e); omega))⟩; clear hr1 hb1 hg1))
        have X4 := Aside0.mk (blk_app HOd.out HG4.out (show W.drew.heap[X]? = _ from HX0.out) (fun e => e.1 rfl))
        go_wp2
        go_roundw
        case rel => exact ⟨j + 1, by omega, by go_num, ⟨by have h4 := HO4.out; rw [wrapI] at h4; rw [jrow_snoc HY.out, if_pos (by simpa using hxy), ← List.append_assoc]; exact Kd.R_mono h4 (fun _ h => h.1)⟩, X4, HB4⟩
        case measure => simp [intOf]; omega
      ·obtain rfl : j = t.length := by omega
       rw [List.take_length] at HO
       go_wp2
       go_roundw
       case rel => exact ⟨k + 1, by omega, by go_num, ⟨by rw [pairs_snoc HX.out]; exact Kd.R_mono HO.out (fun _ _ => trivial)⟩, HB⟩
       case measure => simp [intOf]; omega
    ·obtain rfl : k = s.length := by omega
     rw [List.take_length] at HO
     have hpl := pairs_len t s
     have hpl2 := Nat.mul_le_mul hl2 hl1
     go_wp2_with (go_at_call 141; ((with_reducible refine (impl_gathered _ (pairs s t) _ (Sl.of_R HO.out) hfit.out (by omega)).mono ?_); rintro e w' ⟨u, rfl, hr, hb⟩; have HF := Aside0.mk (Kd.R_lower hr HB.out.size); replace HB := Aside0.mk (bthen HB.out hb); clear hr hb))
     go_ret
     exact RetR.mk (by rw [setJoin, hs, ht]; exact HF.out) HB.out
theorem sl_add_lt {w : World} {ad : Addr} {xs : List It} (h : kIt.C w (some ad) xs.length xs) {k : Nat} (hk : k < xs.length) (j : Nat) : (ad.add j).block < w.heap.size := add_blk ad j ▸ itLt h hk
set_option maxRecDepth 100000 in
set_option maxHeartbeats 4000000 in
theorem spec_SetJoin (v v2 : Value) (s t : List It) (w : World) (h : Sl kIt w v s) (h2 : Sl kIt w v2 t) : Calls Try.prog 152 #[v, v2] w (RetR kIt 118 w (setJoin s t)) := by
 have HS := Aside0.mk h
 have HT := Aside0.mk h2
 obtain ⟨A, c_, rfl, HC, hr⟩ := h
 have hm := Kd.C_max hr
 have HR := Aside0.mk hr
 clear hr
 obtain ⟨A2, c2_, rfl, HC2, hr2⟩ := h2
 have hm2 := Kd.C_max hr2
 have HR2 := Aside0.mk hr2
 clear hr2
 have HN := Aside0.mk (R_none (d := kIt) (e := 118) (base := w.heap.size) (ok := okT) (blk_new w (.cells #[] 118)) (Nat.le_refl _) trivial)
 cases hs : setOk s
 ·have HB := Aside0.mk (Below.refl w.heap.size w)
  go_enter Try.func152, Try.ntmps152
  replace HB := Aside0.mk (below_alloc (Below.refl w.heap.size w) (.cells #[] 118))
  go_wp2_with (go_at_call 103; ((with_reducible refine (spec_SetOk _ s _ (HS.out.below HB.out)).mono ?_); rintro e w' ⟨rfl, hb⟩; replace HB := Aside0.mk (bthen HB.out hb); replace HN := Aside0.mk (Kd.R_below HN.out hb); clear hb))
  go_ret
  exact RetR.mk (by rw [setJoin, hs]; exact HN.out) HB.out
 ·cases ht : setOk t
  ·have HB := Aside0.mk (Below.refl w.heap.size w)
   go_enter Try.func152, Try.ntmps152
   replace HB := Aside0.mk (below_alloc (Below.refl w.heap.size w) (.cells #[] 118))
   go_wp2_with (first | (go_at_call 103; ((with_reducible refine (spec_SetOk (.slice A s.length c_) s _ (HS.out.below HB.out)).mono ?_); rintro e w' ⟨rfl, hb⟩; replace HB := Aside0.mk (bthen HB.out hb); replace HN := Aside0.mk (Kd.R_below HN.out hb); clear hb)) | (go_at_call 103; ((with_reducible refine (spec_SetOk _ t _ (HT.out.below HB.out)).mono ?_); rintro e w' ⟨rfl, hb⟩; replace HB := Aside0.mk (bthen HB.out hb); replace HN := Aside0.mk (Kd.R_below HN.out hb); clear hb)))
   go_ret
   exact RetR.mk (by rw [setJoin, hs, ht]; exact HN.out) HB.out
  ·have hl1 := setOk_len hs
   have hl2 := setOk_len ht
   have HB := Aside0.mk (Below.refl w.heap.size w)
   go_enter Try.func152, Try.ntmps152
   replace HB := Aside0.mk (below_alloc (Below.refl w.heap.size w) (.cells #[] 118))
   go_wp2_with (first
    | (go_at_call 103; ((with_reducible refine (spec_SetOk (.slice A s.length c_) s _ (HS.out.below HB.out)).mono ?_); rintro e w' ⟨rfl, hb⟩; replace HB := Aside0.mk (bthen HB.out hb); replace HN := Aside0.mk (Kd.R_below HN.out hb); clear hb))
    | (go_at_call 103; ((with_reducible refine (spec_SetOk (.slice A2 t.length c2_) t _ (HT.out.below HB.out)).mono ?_); rintro e w' ⟨rfl, hb⟩; replace HB := Aside0.mk (bthen HB.out hb); replace HN := Aside0.mk (Kd.R_below HN.out hb); clear hb)))
   go_loopw [5, 6] (fun o i wr => ∃ (k : Nat), k ≤ s.length ∧ i = .int .i64 k ∧ Aside0 (kIt.R 118 wr w.heap.size okT o (pairs (s.take k) t)) ∧ Aside0 (Below w.heap.size w wr)) (fun _ i _ => s.length - (intOf i).toNat)
   case atStart => exact ⟨0, Nat.zero_le _, rfl, HN, HB⟩
   case round =>
    clear HB HN
    obtain ⟨k, hk, rfl, HO, HB⟩ := hrel
    by_cases hlt : k < s.length
    ·have hpl : (pairs (s.take k) t).length ≤ 400 * 400 := Nat.le_trans (pairs_len t (s.take k)) (Nat.mul_le_mul hl2 (by rw [List.length_take]; omega))
     obtain ⟨x, hx⟩ : ∃ x, s[k]? = some x := ⟨_, List.getElem?_eq_getElem hlt⟩
     have HX := Aside0.mk hx
     clear hx
     go_wp2
     go_loopw [5, 7] (fun o i wq => ∃ (j : Nat), j ≤ t.length ∧ i = .int .i64 j ∧ Aside0 (kIt.R 118 wq w.heap.size okT o (pairs (s.take k) t ++ jrow x (t.take j))) ∧ Aside0 (Below w.heap.size w wq)) (fun _ i _ => t.length - (intOf i).toNat)
     case atStart => exact ⟨0, Nat.zero_le _, rfl, ⟨by simpa [jrow] using HO.out⟩, HB⟩
     case round =>
      clear HO HB
      obtain ⟨j, hj, rfl, HO, HB⟩ := hrel
      by_cases hlt2 : j < t.length
      ·obtain ⟨ad, x', e, HX', h0, h1, h2⟩ := rdIt HR.out HB.out hlt
       cases e
       have ex : x' = x := Option.some.inj (HX'.out.symm.trans HX.out)
       subst ex
       obtain ⟨ad2, y, e, HY, i0, i1, i2⟩ := rdIt HR2.out HB.out hlt2
       cases e
       have a1 := sl_add_lt HR.out hlt (k * 3)
       have a2 := sl_add_lt HR2.out hlt2 (j * 3)
       have hwq := HB.out.size
       have hjl := jrow_len x' (t.take j)
       have p0 := fun u => Ext.cell h0 u
       have q0 := fun u => Ext.cell i0 u
       cases hxy : (x'.f0 == y.f0)
       ·go_wp2
        refine wp_region_ext (by kernel_rfl) (by kernel_rfl) ?_
        repeat (any_goals (first | go_big_quiet_step (fail) | quiet_step (fail) | (refine wpQuiet_step (fun K hK => ?_); go_simp; split <;> (refine hK _ ?_; clear hK K))))
        all_goals (refine wpQuiet_nil ?_; intro u)
        go_wp2
        go_roundw
        case rel => exact ⟨j + 1, by omega, by go_num, ⟨by rw [jrow_snoc HY.out, if_neg (by simpa using hxy), List.append_nil]; exact Kd.R_below HO.out u.bel⟩, ⟨bthen HB.out u.bel⟩⟩
        case measure => simp [intOf]; omega
       ·go_wp2
        refine wp_region_ext (by kernel_rfl) (by kernel_rfl) ?_
        repeat (any_goals (first | go_big_quiet_step (fail) | quiet_step (fail) | (refine wpQuiet_step (fun K hK => ?_); go_simp; split <;> (refine hK _ ?_; clear hK K))))
        all_goals (refine wpQuiet_nil ?_; intro u)
        have HO1 := Aside0.mk (Kd.R_below HO.out u.bel)
        replace h0 := pw_cell_below u.bel h0
        replace h1 := pw_cell_below u.bel h1
        replace h2 := pw_cell_below u.bel h2
        replace i1 := pw_cell_below u.bel i1
        replace i2 := pw_cell_below u.bel i2
        replace HB := Aside0.mk (bthen HB.out u.bel)
        have hW0 := HB.out.size
        clear p0 q0 i0 HO
        generalize u.w' = W at *
        go_wp2
        have HOd := Aside0.mk (R_drew HO1.out)
        go_region_held3 (fun w' => w'.cell? (ad.add (k * 3)) = some (.int .i64 x'.f0) ∧ w'.cell? ⟨(ad.add (k * 3)).block, (ad.add (k * 3)).off + 1, none⟩ = some (.int .i64 x'.f1) ∧ w'.cell? ⟨(ad.add (k * 3)).block, (ad.add (k * 3)).off + 2, none⟩ = some (.int .i64 x'.f2) ∧ w'.cell? ⟨(ad2.add (j * 3)).block, (ad2.add (j * 3)).off + 1, none⟩ = some (.int .i64 y.f1) ∧ w'.cell? ⟨(ad2.add (j * 3)).block, (ad2.add (j * 3)).off + 2, none⟩ = some (.int .i64 y.f2)) (first | exact ⟨h0, h1, h2, i1, i2⟩ | exact HM | exact ⟨pw_cell_below (by repeat (first | exact Below.refl _ _ | apply below_alloc | apply below_drew | assumption)) h0, pw_cell_below (by repeat (first | exact Below.refl _ _ | apply below_alloc | apply below_drew | assumption)) h1, pw_cell_below (by repeat (first | exact Below.refl _ _ | apply below_alloc | apply below_drew | assumption)) h2, pw_cell_below (by repeat (first | exact Below.refl _ _ | apply below_alloc | apply below_drew | assumption)) i1, pw_cell_below (by repeat (first | exact Below.refl _ _ | apply below_alloc | apply below_drew | assumption)) i2⟩)
         (first
          | (go_at_call 179; ((with_reducible refine (spec_l3Pair _ _ _).mono ?_); rintro e w' ⟨rfl, rfl⟩))
          | (refine stepIt (W := W.drew) (base := w.heap.size) (xs := pairs (s.take k) t ++ jrow x' (t.take j)) (ok := okT) rfl rfl rfl HOd.out (fun q hq => by have : W.drew.heap.size = W.heap.size := rfl; first | trivial | omega | ((try dsimp only); omega)) (by show _ ≤ W.heap.size; omega) (by rw [List.length_append]; rw [List.length_take] at hjl; omega) ?_; intro v1 w1 hr1 hb1 hg1; have HO4 := Aside0.mk hr1; have HB4 := Aside0.mk (below_more (below_drew HB.out) hb1); have HG4 := Aside0.mk hg1; have HM : w1.cell? (ad.add (k * 3)) = some (.int .i64 x'.f0) ∧ w1.cell? ⟨(ad.add (k * 3)).block, (ad.add (k * 3)).off + 1, none⟩ = some (.int .i64 x'.f1) ∧ w1.cell? ⟨(ad.add (k * 3)).block, (ad.add (k * 3)).off + 2, none⟩ = some (.int .i64 x'.f2) ∧ w1.cell? ⟨(ad2.add (j * 3)).block, (ad2.add (j * 3)).off + 1, none⟩ = some (.int .i64 y.f1) ∧ w1.cell? ⟨(ad2.add (j * 3)).block, (ad2.add (j * 3)).off + 2, none⟩ = some (.int .i64 y.f2) := ⟨cell_app HOd.out hg1 h0 (by first | exact Or.inl (by assumption) | exact Or.inr (fun e => e rfl) | exact Or.inr (fun e => e.1 rfl) | exact Or.inr (fun e => e.2 rfl) | exact Or.inl (Nat.lt_of_lt_of_le (by assumption) (by omega)) | exact Or.inr (by intro e; (try dsimp only at e); omega)), cell_app HOd.out hg1 h1 (by first | exact Or.inl (by assumption) | exact Or.inr (fun e => e rfl) | exact Or.inr (fun e => e.1 rfl) | exact Or.inr (fun e => e.2 rfl) | exact Or.inl (Nat.lt_of_lt_of_le (by assumption) (by omega)) | exact Or.inr (by intro e; (try dsimp only at e); omega)), cell_app HOd.out hg1 h2 (by first | exact Or.inl (by assumption) | exact Or.inr (fun e => e rfl) | exact Or.inr (fun e => e.1 rfl) | exact Or.inr (fun e => e.2 rfl) | exact Or.inl (Nat.lt_of_lt_of_le (by assumption) (by omega)) | exact Or.inr (by intro e; (try dsimp only at e); omega)), cell_app HOd.out hg1 i1 (by first | exact Or.inl (by assumption) | exact Or.inr (fun e => e rfl) | exact Or.inr (fun e => e.1 rfl) | exact Or.inr (fun e => e.2 rfl) | exact Or.inl (Nat.lt_of_lt_of_le (by assumption) (by omega)) | exact Or.inr (by intro e; (try dsimp only at e); omega)), cell_app HOd.out hg1 i2 (by first | exact Or.inl (by assumption) | exact Or.inr (fun e => e rfl) | exact Or.inr (fun e => e.1 rfl) | exact Or.inr (fun e => e.2 rfl) | exact Or.inl (Nat.lt_of_lt_of_le (by assumption) (by omega)) | exact Or.inr (by intro e; (try dsimp only at e); omega))⟩; clear hr1 hb1 hg1))
        go_wp2
        go_roundw
        case rel => exact ⟨j + 1, by omega, by go_num, ⟨by have h4 := HO4.out; rw [wrapI] at h4; rw [jrow_snoc HY.out, if_pos (by simpa using hxy), ← List.append_assoc]; exact h4⟩, HB4⟩
        case measure => simp [intOf]; omega
      ·obtain rfl : j = t.length := by omega
       rw [List.take_length] at HO
       go_wp2
       go_roundw
       case rel => exact ⟨k + 1, by omega, by go_num, ⟨by rw [pairs_snoc HX.out]; exact HO.out⟩, HB⟩
       case measure => simp [intOf]; omega
    ·obtain rfl : k = s.length := by omega
     rw [List.take_length] at HO
     have hpl := pairs_len t s
     have hpl2 := Nat.mul_le_mul hl2 hl1
     go_wp2_with (go_at_call 140; ((with_reducible refine (spec_l2Items _ (pairs s t) _ (Sl.of_R HO.out) (by omega)).mono ?_); rintro e w' ⟨u, rfl, hr, hb⟩; have HF := Aside0.mk (Kd.R_lower hr HB.out.size); replace HB := Aside0.mk (bthen HB.out hb); clear hr hb))
     go_ret
     exact RetR.mk (by rw [setJoin, hs, ht]; exact HF.out) HB.out
end Go.Proofs.Ytkdendlgaaimbaa.X
namespace Go.Proofs.Ytkdendlgaaimbaa.X
open Go.RowKit Go.Proofs.YtkdendlgaaimbaaW.PrintWords
set_option linter.unusedVariables false
set_option linter.unusedSimpArgs false
def each3 (a b how : Int) : Int × Int × Bool :=
 if how = 1 then (b % 4, b - b % 4 + a, true) else if how = 2 then (a, (b + 1) % 100, true) else if how = 3 then (b % 4, b, true) else if how = 4 then (0, b, true)
 else if how = 5 then (a, b, decide (b % 2 = 0)) else if how = 6 then (a, b, decide (a % 2 = 0)) else (a, b, decide (b < 10))
theorem each3_kv {a b how : Int} (h0 : 1 ≤ how) (h1 : how ≤ 7) : eachKV a b how = if (each3 a b how).2.2 = true then some ((each3 a b how).1, (each3 a b how).2.1) else none := by
 unfold eachKV each3
 by_cases e1 : how = 1
 ·simp [e1]
 by_cases e2 : how = 2
 ·simp [e2]
 by_cases e3 : how = 3
 ·simp [e3]
 by_cases e4 : how = 4
 ·simp [e4]
 by_cases e5 : how = 5
 ·simp [e5]
 by_cases e6 : how = 6
 ·simp [e6]
 have e7 : how = 7 := by omega
 simp [e7]
set_option maxRecDepth 100000 in
set_option maxHeartbeats 1000000 in
theorem impl_each (a b how : Int) (ha : 0 ≤ a) (ha' : a ≤ 3) (hb : 0 ≤ b) (hb' : b ≤ 99) (h0 : 1 ≤ how) (h1 : how ≤ 7) (w : World) : Calls Try.prog 183 #[.int .i64 a, .int .i64 b, .int .i64 how] w (fun e w' => e = .returned (.tuple #[.int .i64 (each3 a b how).1, .int .i64 (each3 a b how).2.1, .bool (each3 a b how).2.2]) ∧ w = w') := by
 unfold each3
 rcases (show how = 1 ∨ how = 2 ∨ how = 3 ∨ how = 4 ∨ how = 5 ∨ how = 6 ∨ how = 7 by omega) with rfl | rfl | rfl | rfl | rfl | rfl | rfl
 all_goals
  go_enter Try.func183, Try.ntmps183
  go_wp2
  go_ret3
  exact ⟨by first | (simp; done) | (simp; rfl), rfl⟩
set_option maxRecDepth 100000 in
set_option maxHeartbeats 1000000 in
theorem spec_l3One (a b how : Int) (ha : 0 ≤ a) (ha' : a ≤ 3) (hb : 0 ≤ b) (hb' : b ≤ 99) (h0 : 1 ≤ how) (h1 : how ≤ 7) (w : World) : Calls Try.prog 178 #[.int .i64 a, .int .i64 b, .int .i64 how] w (fun e w' => e = .returned (.tuple #[.int .i64 (each3 a b how).1, .int .i64 (each3 a b how).2.1, .bool (each3 a b how).2.2]) ∧ w = w') := by
 unfold each3
 rcases (show how = 1 ∨ how = 2 ∨ how = 3 ∨ how = 4 ∨ how = 5 ∨ how = 6 ∨ how = 7 by omega) with rfl | rfl | rfl | rfl | rfl | rfl | rfl
 all_goals
  go_enter Try.func178, Try.ntmps178
  go_wp2
  go_ret3
  exact ⟨by first | (simp; done) | (simp; rfl) | (simp; omega), rfl⟩
set_option maxRecDepth 100000 in
set_option maxHeartbeats 400000 in
theorem impl_howOk (how : Int) (w : World) : Calls Try.prog 182 #[.int .i64 how] w (fun e w' => e = .returned (.bool (decide (1 ≤ how) && decide (how ≤ 7))) ∧ w = w') := by
 by_cases h0 : 1 ≤ how <;> by_cases h1 : how ≤ 7
 all_goals
  go_enter Try.func182, Try.ntmps182
  go_wp2
  go_ret
  exact ⟨by simp [h0, h1], rfl⟩
set_option maxRecDepth 100000 in
set_option maxHeartbeats 400000 in
theorem spec_l3Way (how : Int) (w : World) : Calls Try.prog 177 #[.int .i64 how] w (fun e w' => e = .returned (.bool (decide (1 ≤ how) && decide (how ≤ 7))) ∧ w = w') := by
 go_enter Try.func177, Try.ntmps177
 go_wp2_with (go_at_call 94; ((with_reducible refine (spec_l6In _ _ _ _).mono ?_); rintro e w' ⟨rfl, rfl⟩))
 go_ret
 exact ⟨rfl, rfl⟩
theorem eachI_3 {x : It} {how : Int} (h0 : 1 ≤ how) (h1 : how ≤ 7) : eachI how x = if (each3 x.f0 x.f1 how).2.2 = true then [⟨(each3 x.f0 x.f1 how).1, (each3 x.f0 x.f1 how).2.1, x.f2⟩] else [] := by
 unfold eachI; rw [each3_kv h0 h1]
 cases (each3 x.f0 x.f1 how).2.2 <;> simp
theorem fm_snoc {α β : Type} {s : List α} {k : Nat} {x : α} (hx : s[k]? = some x) (g : α → List β) : (s.take (k + 1)).flatMap g = (s.take k).flatMap g ++ g x := by
 rw [take_snoc hx, List.flatMap_append]; simp
theorem eachI_take (how : Int) (s : List It) (k : Nat) : ((s.take k).flatMap (eachI how)).length ≤ k := Nat.le_trans (len_each how _) (by rw [List.length_take]; omega)
theorem each_fit {s : List It} {how : Int} (hs : setOk s = true) : ∀ y ∈ s.flatMap (eachI how), wfI y.f0 ∧ wfI y.f1 ∧ wfI y.f2 := fun y hy => by
 have hk := key_each (how := how) (s := s) (fun x hx => by have := sOk_of hs x hx; unfold keyOk; omega) y hy
 obtain ⟨x, hx, hy⟩ := List.mem_flatMap.1 hy
 have := sOk_of hs x hx
 have e : y.f2 = x.f2 := by
  unfold eachI at hy
  cases he : eachKV x.f0 x.f1 how with
  | none => rw [he] at hy; cases hy
  | some p => obtain ⟨a, b⟩ := p; rw [he] at hy; rw [List.mem_singleton.1 hy]
 unfold keyOk at hk
 exact ⟨wf_of (by omega) (by omega), wf_of (by omega) (by omega), wf_of (by omega) (by omega)⟩
theorem Calls.extQ {P : Program} {f : FuncId} {args : Array Value} {w : World} {u : Ext w} {v : Value} (h : Calls P f args u.w' fun e w' => e = .returned v ∧ u.w' = w') : Calls P f args u.w' fun e w'' => e = .returned v ∧ ∃ u' : Ext w, w'' = u'.w' :=
 h.mono fun _ w'' ⟨he, hw⟩ => ⟨he, u, hw.symm⟩
set_option maxRecDepth 100000 in
set_option maxHeartbeats 4000000 in
theorem impl_SetEach (v : Value) (s : List It) (how : Int) (w : World) (h : Sl kIt w v s) : Calls Try.prog 155 #[v, .int .i64 how] w (RetR kIt 118 w (setEach s how)) := by
 have HS := Aside0.mk h
 obtain ⟨A, c_, rfl, HC, hr⟩ := h
 have hm := Kd.C_max hr
 have HR := Aside0.mk hr
 clear hr
 cases hs : setOk s
 ·have HB := Aside0.mk (Below.refl w.heap.size w)
  go_enter Try.func155, Try.ntmps155
  go_wp2_with (go_at_call 43; ((with_reducible refine (impl_SetOk _ s _ HS.out).mono ?_); rintro e w' ⟨rfl, hb⟩; replace HB := Aside0.mk (bthen HB.out hb); clear hb))
  go_ret
  exact RetR.mk (by rw [setEach, hs]; exact Kd.R_nil _ _ _ _ _) HB.out
 ·cases hh : (decide (1 ≤ how) && decide (how ≤ 7))
  ·have HB := Aside0.mk (Below.refl w.heap.size w)
   go_enter Try.func155, Try.ntmps155
   go_wp2_with (first | (go_at_call 43; ((with_reducible refine (impl_SetOk _ s _ (HS.out.below HB.out)).mono ?_); rintro e w' ⟨rfl, hb⟩; replace HB := Aside0.mk (bthen HB.out hb); clear hb)) | (go_at_call 182; ((with_reducible refine (impl_howOk _ _).mono ?_); rintro e w' ⟨rfl, rfl⟩)))
   go_ret
   exact RetR.mk (by rw [setEach, hs, Bool.true_and, hh]; exact Kd.R_nil _ _ _ _ _) HB.out
  ·have hl1 := setOk_len hs
   have hh2 := hh
   simp only [Bool.and_eq_true, decide_eq_true_eq] at hh2
   obtain ⟨g0, g1⟩ := hh2
   have hok := Aside0.mk (sOk_of hs)
   have hfit := Aside0.mk (each_fit (how := how) hs)
   have HB := Aside0.mk (Below.refl w.heap.size w)
   go_enter Try.func155, Try.ntmps155
   go_wp2_with (first | (go_at_call 43; ((with_reducible refine (impl_SetOk _ s _ (HS.out.below HB.out)).mono ?_); rintro e wb ⟨rfl, hb⟩; replace HB := Aside0.mk (bthen HB.out hb); clear hb)) | (go_at_call 182; ((with_reducible refine (impl_howOk _ _).mono ?_); rintro e w' ⟨rfl, rfl⟩)))
   have HH := Aside0.mk hh
   clear hh
   go_loopw [5, 22] (fun o i wr => ∃ (k : Nat), k ≤ s.length ∧ i = .int .i64 k ∧ Aside0 (kIt.R 118 wr w.heap.size okT o ((s.take k).flatMap (eachI how))) ∧ Aside0 (Below w.heap.size w wr)) (fun _ i _ => s.length - (intOf i).toNat)
   case atStart => exact ⟨0, Nat.zero_le _, rfl, ⟨R_none (blk_new wb _) HB.out.size trivial⟩, ⟨below_alloc HB.out _⟩⟩
   case round =>
    clear HB
    obtain ⟨k, hk, rfl, HO, HB⟩ := hrel
    by_cases hlt : k < s.length
    ·obtain ⟨ad, x, e, HX, h0, h1, h2⟩ := rdIt HR.out HB.out hlt
     cases e
     have hws := HB.out.size
     have hpl := eachI_take how s k
     have hx := hok.out x (List.mem_of_getElem? HX.out)
     cases hkp : (each3 x.f0 x.f1 how).2.2
     ·have HK := Aside0.mk hkp
      go_wp2_with (go_at_call 183; ((with_reducible refine (impl_each x.f0 x.f1 how (by omega) (by omega) (by omega) (by omega) g0 g1 _).mono ?_); rintro e w' ⟨rfl, rfl⟩))
      go_roundw
      case rel => exact ⟨k + 1, by omega, by go_num, ⟨by rw [fm_snoc HX.out, eachI_3 g0 g1, HK.out]; simpa using Kd.R_alloc HO.out _⟩, ⟨below_alloc HB.out _⟩⟩
      case measure => simp [intOf]; omega
     ·have HK := Aside0.mk hkp
      go_upto_region 9 with (go_at_call 183; ((with_reducible refine (impl_each x.f0 x.f1 how (by omega) (by omega) (by omega) (by omega) g0 g1 _).mono ?_); rintro e w' ⟨rfl, rfl⟩))
      refine name_world fun W hW => ?_
      have B0 : W.heap[wr.heap.size]? = some (.cells #[.int .i64 x.f0, .int .i64 x.f1, .int .i64 x.f2] 118 (0, 0)) := by rw [hW]; exact blk_new wr _
      have hb1 : Below wr.heap.size wr W := by rw [hW]; repeat (first | exact Below.refl _ _ | apply below_alloc | refine below_set ?_ (by simp))
      clear hW
      generalize hX : wr.heap.size = X at B0 ⊢
      replace HB := Aside0.mk (bthen HB.out hb1)
      have HO1 := Aside0.mk (Kd.R_below HO.out hb1)
      have b2 := blk_cell B0 2
      clear h0 h1 h2 hb1 hX HO
      go_wp2_with (at_builtin; refine appIt (w0 := w) (base := w.heap.size) (xs := (s.take k).flatMap (eachI how)) (ok := okT) rfl rfl rfl HO1.out (fun _ _ => trivial) HB.out (by have := HB.out.size; omega) (by omega) ?_; intro v1 w1 hr1 hb1 hg1 ha1; have HO2 := Aside0.mk hr1; have HG_ := Aside0.mk hg1; replace HB := Aside0.mk hb1; clear hr1 hb1 hg1 ha1)
      go_roundw
      case rel => exact ⟨k + 1, by omega, by go_num, ⟨by rw [fm_snoc HX.out, eachI_3 g0 g1, HK.out]; exact HO2.out⟩, HB⟩
      case measure => simp [intOf]; omega
    ·obtain rfl : k = s.length := by omega
     rw [List.take_length] at HO
     have hpl := len_each how s
     go_wp2_with (go_at_call 141; ((with_reducible refine (impl_gathered _ (s.flatMap (eachI how)) _ (Sl.of_R HO.out) hfit.out (by omega)).mono ?_); rintro e w' ⟨u, rfl, hr, hb⟩; have HF := Aside0.mk (Kd.R_lower hr HB.out.size); replace HB := Aside0.mk (bthen HB.out hb); clear hr hb))
     go_ret
     exact RetR.mk (by rw [setEach, hs, Bool.true_and, HH.out]; exact HF.out) HB.out
set_option maxRecDepth 100000 in
set_option maxHeartbeats 4000000 in
theorem spec_SetEach (v : Value) (s : List It) (how : Int) (w : World) (h : Sl kIt w v s) : Calls Try.prog 149 #[v, .int .i64 how] w (RetR kIt 118 w (setEach s how)) := by
 have HS := Aside0.mk h
 obtain ⟨A, c_, rfl, HC, hr⟩ := h
 have hm := Kd.C_max hr
 have HR := Aside0.mk hr
 clear hr
 have HN := Aside0.mk (R_none (d := kIt) (e := 118) (base := w.heap.size) (ok := okT) (blk_new w (.cells #[] 118)) (Nat.le_refl _) trivial)
 by_cases hgo : setOk s = true ∧ 1 ≤ how ∧ how ≤ 7
 ·obtain ⟨hs, g0, g1⟩ := hgo
  have hl1 := setOk_len hs
  have hh : (decide (1 ≤ how) && decide (how ≤ 7)) = true := by simp [g0, g1]
  have hok := Aside0.mk (sOk_of hs)
  have HB := Aside0.mk (Below.refl w.heap.size w)
  go_enter Try.func149, Try.ntmps149
  replace HB := Aside0.mk (below_alloc (Below.refl w.heap.size w) (.cells #[] 118))
  go_wp2
  go_loopw [5, 6] (fun o i wr => ∃ (k : Nat), k ≤ s.length ∧ i = .int .i64 k ∧ Aside0 (kIt.R 118 wr w.heap.size okT o ((s.take k).flatMap (eachI how))) ∧ Aside0 (Below w.heap.size w wr)) (fun _ i _ => s.length - (intOf i).toNat)
  case atStart => exact ⟨0, Nat.zero_le _, rfl, HN, HB⟩
  case round =>
   clear HB HN
   obtain ⟨k, hk, rfl, HO, HB⟩ := hrel
   by_cases hlt : k < s.length
   ·go_upto_region 5 with (first | (go_at_call 103; ((with_reducible refine (spec_SetOk _ s _ (HS.out.below HB.out)).mono ?_); rintro e wb ⟨rfl, hb⟩; replace HB := Aside0.mk (bthen HB.out hb); replace HO := Aside0.mk (Kd.R_below HO.out hb); clear hb)) | (go_at_call 177; ((with_reducible refine (spec_l3Way _ _).mono ?_); rintro e w' ⟨rfl, rfl⟩)))
    have HH := Aside0.mk hh
    clear hh
    obtain ⟨ad, x, e, HX, h0, h1, h2⟩ := rdIt HR.out HB.out hlt
    cases e
    have a1 := sl_add_lt HR.out hlt (k * 3)
    have hws := HB.out.size
    have hpl := eachI_take how s k
    have hx := hok.out x (List.mem_of_getElem? HX.out)
    have p0 := fun u => Ext.cell h0 u
    have p1 := fun u => Ext.cell h1 u
    have O1 := fun W => spec_l3One x.f0 x.f1 how (by omega) (by omega) (by omega) (by omega) g0 g1 W
    refine wp_region_ext (by kernel_rfl) (by kernel_rfl) ?_
    repeat (any_goals (first | go_big_quiet_step ((go_at_call 178; exact Calls.extQ (O1 _))) | quiet_step ((go_at_call 178; exact Calls.extQ (O1 _))) | (refine wpQuiet_step (fun K hK => ?_); go_simp; split <;> (refine hK _ ?_; clear hK K))))
    all_goals (refine wpQuiet_nil ?_; intro u)
    have HO1 := Aside0.mk (Kd.R_below HO.out u.bel)
    replace h2 := pw_cell_below u.bel h2
    replace HB := Aside0.mk (bthen HB.out u.bel)
    clear p0 p1 h0 h1 O1 HO hws
    generalize u.w' = W at *
    have hws := HB.out.size
    cases hkp : (each3 x.f0 x.f1 how).2.2
    ·have HK := Aside0.mk hkp
     go_wp2
     go_roundw
     case rel => exact ⟨k + 1, by omega, by go_num, ⟨by rw [fm_snoc HX.out, eachI_3 g0 g1, HK.out]; simpa using HO1.out⟩, HB⟩
     case measure => simp [intOf]; omega
    ·have HK := Aside0.mk hkp
     go_wp2_with (at_builtin; refine appIt (w0 := w) (base := w.heap.size) (xs := (s.take k).flatMap (eachI how)) (ok := okT) rfl rfl rfl HO1.out (fun _ _ => trivial) HB.out (by have := HB.out.size; omega) (by omega) ?_; intro v1 w1 hr1 hb1 hg1 ha1; have HO2 := Aside0.mk hr1; have HG_ := Aside0.mk hg1; replace HB := Aside0.mk hb1; clear hr1 hb1 hg1 ha1)
     go_roundw
     case rel => exact ⟨k + 1, by omega, by go_num, ⟨by rw [fm_snoc HX.out, eachI_3 g0 g1, HK.out]; exact HO2.out⟩, HB⟩
     case measure => simp [intOf]; omega
   ·obtain rfl : k = s.length := by omega
    rw [List.take_length] at HO
    have hpl := len_each how s
    go_wp2_with (go_at_call 140; ((with_reducible refine (spec_l2Items _ (s.flatMap (eachI how)) _ (Sl.of_R HO.out) (by omega)).mono ?_); rintro e w' ⟨u, rfl, hr, hb⟩; have HF := Aside0.mk (Kd.R_lower hr HB.out.size); replace HB := Aside0.mk (bthen HB.out hb); clear hr hb))
    go_ret
    exact RetR.mk (by rw [setEach, hs, Bool.true_and, hh]; exact HF.out) HB.out
 ·have HE : Aside0 (setEach s how = []) := ⟨by
   unfold setEach
   rw [if_neg (fun e => hgo (by simpa [and_assoc] using e))]⟩
  have hbad : setOk s = false ∨ (decide (1 ≤ how) && decide (how ≤ 7)) = false := by
   cases h1 : setOk s with
   | false => exact Or.inl rfl
   | true =>
    right
    cases h2 : (decide (1 ≤ how) && decide (how ≤ 7)) with
    | false => rfl
    | true =>
     simp only [Bool.and_eq_true, decide_eq_true_eq] at h2
     exact (hgo ⟨h1, h2.1, h2.2⟩).elim
  have HB := Aside0.mk (Below.refl w.heap.size w)
  go_enter Try.func149, Try.ntmps149
  replace HB := Aside0.mk (below_alloc (Below.refl w.heap.size w) (.cells #[] 118))
  go_wp2
  go_loopw [5, 6] (fun o i wr => i = .int .i64 0 ∧ Aside0 (kIt.R 118 wr w.heap.size okT o []) ∧ Aside0 (Below w.heap.size w wr)) (fun _ i _ => 0)
  case atStart => exact ⟨rfl, HN, HB⟩
  case round =>
   clear HB HN
   obtain ⟨rfl, HO, HB⟩ := hrel
   by_cases hlt : (0 : Int) < (s.length : Int)
   ·rcases hbad with hs | hh
    ·go_wp2_with (first | (go_at_call 103; ((with_reducible refine (spec_SetOk _ s _ (HS.out.below HB.out)).mono ?_); rintro e w' ⟨rfl, hb⟩; replace HB := Aside0.mk (bthen HB.out hb); replace HO := Aside0.mk (Kd.R_below HO.out hb); clear hb)) | (go_at_call 140; ((with_reducible refine (spec_l2Items _ [] _ (Sl.of_R HO.out) (by simp)).mono ?_); rintro e w' ⟨u, rfl, hr, hb⟩; have HF := Aside0.mk (Kd.R_lower hr HB.out.size); replace HB := Aside0.mk (bthen HB.out hb); clear hr hb)))
     go_ret
     exact RetR.mk (by rw [HE.out]; exact HF.out) HB.out
    ·cases hs : setOk s
     ·go_wp2_with (first | (go_at_call 103; ((with_reducible refine (spec_SetOk _ s _ (HS.out.below HB.out)).mono ?_); rintro e w' ⟨rfl, hb⟩; replace HB := Aside0.mk (bthen HB.out hb); replace HO := Aside0.mk (Kd.R_below HO.out hb); clear hb)) | (go_at_call 140; ((with_reducible refine (spec_l2Items _ [] _ (Sl.of_R HO.out) (by simp)).mono ?_); rintro e w' ⟨u, rfl, hr, hb⟩; have HF := Aside0.mk (Kd.R_lower hr HB.out.size); replace HB := Aside0.mk (bthen HB.out hb); clear hr hb)))
      go_ret
      exact RetR.mk (by rw [HE.out]; exact HF.out) HB.out
     ·go_wp2_with (first | (go_at_call 103; ((with_reducible refine (spec_SetOk _ s _ (HS.out.below HB.out)).mono ?_); rintro e w' ⟨rfl, hb⟩; replace HB := Aside0.mk (bthen HB.out hb); replace HO := Aside0.mk (Kd.R_below HO.out hb); clear hb)) | (go_at_call 177; ((with_reducible refine (spec_l3Way _ _).mono ?_); rintro e w' ⟨rfl, rfl⟩)) | (go_at_call 140; ((with_reducible refine (spec_l2Items _ [] _ (Sl.of_R HO.out) (by simp)).mono ?_); rintro e w' ⟨u, rfl, hr, hb⟩; have HF := Aside0.mk (Kd.R_lower hr HB.out.size); replace HB := Aside0.mk (bthen HB.out hb); clear hr hb)))
      go_ret
      exact RetR.mk (by rw [HE.out]; exact HF.out) HB.out
   ·go_wp2_with (go_at_call 140; ((with_reducible refine (spec_l2Items _ [] _ (Sl.of_R HO.out) (by simp)).mono ?_); rintro e w' ⟨u, rfl, hr, hb⟩; have HF := Aside0.mk (Kd.R_lower hr HB.out.size); replace HB := Aside0.mk (bthen HB.out hb); clear hr hb))
    go_ret
    exact RetR.mk (by rw [HE.out]; exact HF.out) HB.out
end Go.Proofs.Ytkdendlgaaimbaa.X
