/- Conditions: none. -/
import Derived.Test.YtkdendlgaaimbaaYDMv
import Derived.Test.YtkdendlgaaimbaaProg
import Derived.Below
import Derived.Deep.Draws
import Derived.Deep.AppendLies
import Derived.Maps.AppendAt
import Derived.OwnWalk
import Derived.Laws.BytesArg
import Derived.Laws.MakeOwn
import Derived.Laws.OwnMore
import Derived.Deep.OwnRows
import Derived.Tactics
import Derived.Lib.ConvBytes
import Derived.Laws.Slices
import Derived.WalkKit
import Derived.KernelRfl
import Derived.RowKit3
import Derived.Deep.LoopGhost
import Derived.Deep.QuietTactic
import Derived.BigQuiet
import Derived.WideLaws
import Derived.Deep.DeepCutAuto
import Derived.Deep.CutBlock
import Derived.Deep.RegionHeld3
import Derived.Laws.Rows
import Derived.Lib.AppendStr
import Derived.ArgAppend
import Derived.Laws.IdiomCopy
import Derived.OrdersHeld
import Derived.Laws.BitsLemmas
import Derived.RowKit
import Derived.Test.YtkdendlgaaimbaaYCBs
import Derived.Test.YtkdendlgaaimbaaYDBs
import Derived.Test.YtkdendlgaaimbaaVAWords
import Derived.Test.YtkdendlgaaimbaaVALast
import Derived.Test.YtkdendlgaaimbaaVATab
import Derived.Test.YtkdendlgaaimbaaVAApart
import Derived.Test.YtkdendlgaaimbaaVAArr
import Derived.Test.YtkdendlgaaimbaaVAFoot
import Derived.Test.YtkdendlgaaimbaaVAKept
import Derived.Test.YtkdendlgaaimbaaVAShare
import Derived.Test.YtkdendlgaaimbaaVAN
import Derived.Test.YtkdendlgaaimbaaVAEqStruct
import Derived.Test.YtkdendlgaaimbaaVARepsOne
import Derived.Test.YtkdendlgaaimbaaVAInv
import Derived.Test.YtkdendlgaaimbaaVAGuard
import Derived.Test.YtkdendlgaaimbaaVAMore
import Derived.Test.YtkdendlgaaimbaaYDLb
import Derived.Shelf.GgSortFunc.LotD
import Derived.Test.YtkdendlgaaimbaaYDSb
import Derived.RegionTactic
import Derived.BigRegion
namespace Go.Proofs.Ytkdendlgaaimbaa.X
open Go.RowKit Go.Proofs.YtkdendlgaaimbaaW.PrintWords
set_option linter.unusedVariables false
set_option linter.unusedSimpArgs false
section
variable {P : Program} {ops : Array Oper} {rest : List Oper} {o : Oper} {a : Act} {Q : Exit → Act → World → Prop}
theorem storeRT {w0 W : World} {base : Nat} (hN : o.dst = none) (hgd : o.guard = none) {ty : TypeId} {p x : Operand} (ho : o.op = .store ty p x) {e g n cap o' : Nat} (k : Nat) {xs : List Rw} (x0 : Rw) (t : Tm) {ok : Nat → Prop}
  (haddr : a.eval p = .pointer (some ⟨g, o', none⟩)) (hoff : o' = k * 5 + 2) (hu : (a.eval x).cells.toList = [.int .i64 t.f0, .int .i64 t.f1]) (ht : (P.info? ty).map (·.size) = some 2)
  (HO : kRw.R e W base ok (.slice (some ⟨g, 0, none⟩) n cap) xs) (hx0 : xs[k]? = some x0) (hi : k < n) (HB : Below base w0 W)
  (h : ∀ w1, kRw.R e w1 base ok (.slice (some ⟨g, 0, none⟩) n cap) (xs.set k { x0 with f2 := t }) → Below base w0 w1 → W.grownBy w1 (some g) → wpList P ops Q rest a w1) : wpList P ops Q (o :: rest) a W := by
 have hl : k < xs.length := (List.getElem?_eq_some_iff.1 hx0).1
 obtain ⟨c, hcl, hM, hcc, _⟩ := Kd.R_elem HO x0 (k : Int) (by omega) (by omega)
 simp only [Int.toNat_natCast] at hcc hM
 have e0 : xs.getD k x0 = x0 := by simp [List.getD, hx0]
 rw [e0] at hM
 have ec := kRw_M.1 hM
 subst ec
 refine Kd.R_store kRw base hN hgd ty p x ho e (k : Int) 2 _ { x0 with f2 := t } _ [.int .i64 t.f0, .int .i64 t.f1] (vRw x0) ok (fun _ => False) haddr (by rw [Int.toNat_natCast]; exact hoff) rfl hu ht (fun q hq => by simp at hq; rcases hq with rfl | rfl <;> rfl) HO (by omega) (by omega) hcl (by simpa using hcc) (by show 2 + 2 ≤ 5; omega) ?_ (fun _ hq => hq.elim) HB (by simpa using h)
 exact kRw_M.2 rfl
end
set_option maxRecDepth 100000 in
set_option maxHeartbeats 2000000 in
theorem impl_advanced (v v2 : Value) (l : List Rw) (f : List Tm) (w : World) (h : Sl kRw w v l) (hf : Sl kTm w v2 f) (hl1 : l.length ≤ 1000000) : Calls Try.prog 79 #[v, v2] w (RetR kRw 102 w (l.map (mv f))) := by
 have HS := Aside0.mk h
 have HF := Aside0.mk hf
 obtain ⟨A, c_, rfl, HC, hr⟩ := h
 have hm := Kd.C_max hr
 have HR := Aside0.mk hr
 clear hr
 have HN := Aside0.mk (R_none (d := kRw) (e := 102) (base := w.heap.size) (ok := okT) (blk_new w (.cells #[] 102)) (Nat.le_refl _) trivial)
 have MV : ∀ (t : Tm) W, Sl kTm W v2 f → Calls Try.prog 132 #[v2, .agg #[.int .i64 t.f0, .int .i64 t.f1]] W (RetV W (.agg #[.int .i64 (moved f t).f0, .int .i64 (moved f t).f1])) := fun t W hW => impl_moved v2 f t W hW
 have HB := Aside0.mk (Below.refl w.heap.size w)
 go_enter Try.func79, Try.ntmps79
 replace HB := Aside0.mk (below_alloc HB.out (.cells #[] 102))
 go_upto_region 2 with (at_builtin; refine appsRw (w0 := w) (base := w.heap.size) (xs := []) (ys := l) (ok := okT) rfl rfl (HS.out.below HB.out) HN.out (fun _ _ => trivial) HB.out HB.out.size (by first | omega | (simp; omega)) ?_; intro v1 w' hr1 hb1 hg1 ha1; have HO := Aside0.mk hr1; replace HB := Aside0.mk hb1; clear hr1 hb1 hg1 ha1)
 rw [List.nil_append] at HO
 obtain ⟨A3, c3, rfl, hc3, hC3⟩ := Sl.of_R HO.out
 clear hC3
 go_wp2
 go_loopw [12] (fun i wr => ∃ (k : Nat), k ≤ l.length ∧ i = .int .i64 k ∧ Aside0 (kRw.R 102 wr w.heap.size okT (.slice A3 l.length c3) ((l.take k).map (mv f) ++ l.drop k)) ∧ Aside0 (Below w.heap.size w wr)) (fun i _ => l.length - (intOf i).toNat)
 case atStart => exact ⟨0, Nat.zero_le _, rfl, by simpa using HO, HB⟩
 case round =>
  clear HB HO HN
  obtain ⟨k, hk, rfl, HO, HB⟩ := hrel
  by_cases hlt : k < l.length
  ·obtain ⟨g, cap, e, hg1, hg2⟩ := formR HO.out (n := l.length) (len_take (mv f) hk) (by omega)
   cases e
   obtain ⟨x, hx⟩ : ∃ x, l[k]? = some x := ⟨_, List.getElem?_eq_getElem hlt⟩
   have hgx := get_take (mv f) hx
   have HX := Aside0.mk hx
   obtain ⟨ad, x', e, HX', h0, h1, h2, h3, h4⟩ := rdRw (Kd.R_reads' HO.out).2.2 (Below.refl _ _) (k := k) (by rw [len_take (mv f) hk]; exact hlt)
   cases e
   have ex : x' = x := Option.some.inj (HX'.out.symm.trans hgx)
   subst ex
   have h2' : wr.cell? ⟨g, k * 5 + 2, none⟩ = some (.int .i64 x'.f2.f0) := by rw [add_plain] at h2; exact h2
   have h3' : wr.cell? ⟨g, k * 5 + 3, none⟩ = some (.int .i64 x'.f2.f1) := by rw [add_plain] at h3; exact h3
   clear h0 h1 h2 h3 h4 hx
   go_wp2_with (first
    | (go_at_call 132; ((with_reducible refine (MV x'.f2 wr (HF.out.below HB.out)).mono ?_); rintro e w5 ⟨rfl, hb⟩; have HO5 := Aside0.mk (Kd.R_below HO.out hb); replace HB := Aside0.mk (bthen HB.out hb); clear hb))
    | (refine storeRT (base := w.heap.size) rfl rfl rfl k x' (moved f x'.f2) (by first | rfl | simp) (by first | rfl | omega) (by first | rfl | (simp [*]; done)) (by kernel_rfl) HO5.out hgx hlt HB.out ?_; intro w1 hr1 hb1 hg1; have HO2 := Aside0.mk hr1; replace HB := Aside0.mk hb1; clear hr1 hb1 hg1))
   go_roundw
   case rel => exact ⟨k + 1, by omega, by go_num, ⟨by rw [← set_take (mv f) HX.out]; exact HO2.out⟩, HB⟩
   case measure => simp [intOf]; omega
  ·obtain rfl : k = l.length := by omega
   rw [List.take_length, List.drop_length, List.append_nil] at HO
   go_wp2
   go_ret
   exact RetR.mk HO.out HB.out
end Go.Proofs.Ytkdendlgaaimbaa.X
