/- Conditions: none. -/
import Derived.Test.YtkdendlgaaimbaaYQDrawRows
import Derived.Test.YtkdendlgaaimbaaYQSa
import Derived.RegionTactic
import Derived.BigRegion
namespace Go.Proofs.Ytkdendlgaaimbaa.X
open Go.RowKit Go.Proofs.YtkdendlgaaimbaaW.PrintWords
set_option linter.unusedVariables false
set_option linter.unusedSimpArgs false
theorem R_off {α : Type} {d : Kd α} {e : Nat} {w : World} {base rb : Nat} {ok : Nat → Prop} {v : Value} {xs : List α} (h : d.R e w base ok v xs) (hb : rb < base) : d.R e w base (fun q => q ≠ rb) v xs := Kd.R_mono (Kd.R_bound h) (fun q hq => by have := hq.2.1; omega)
theorem Adv.mk' {w0 W W' : World} {rb : Nat} {s : List Int} {p d p' : Int} (h0 : p ≤ p') (h1 : p' ≤ p + d) (hR : Rd w0 rb s p' W') (hg : W.grownBy W' (some rb)) : Adv w0 rb s p d W W' := ⟨p', h0, h1, hR, hg⟩
def OpenP (w : World) (e : Ending) (w' : World) : Prop := ∃ rb s, e = .returned (.pointer (some ⟨rb, 0, none⟩)) ∧ RS s ∧ Rd w rb s 0 w' ∧ Below w.heap.size w w'
theorem OpenP.mk {w w' : World} {v : Value} {rb : Nat} {s : List Int} (hv : v = .pointer (some ⟨rb, 0, none⟩)) (h1 : RS s) (h2 : Rd w rb s 0 w') (h3 : Below w.heap.size w w') : OpenP w (.returned v) w' := ⟨rb, s, by rw [hv], h1, h2, h3⟩
set_option maxRecDepth 100000 in
set_option maxHeartbeats 1000000 in
theorem spec_l6Open (v : Value) (l : List Int) (w : World) (h : Sl kB w v l) (hb : ∀ x ∈ l, 0 ≤ x ∧ x ≤ 255) : Calls Try.prog 67 #[v] w (OpenP w) := by
 obtain ⟨A, c, rfl, hc, hr⟩ := h
 have hm := Kd.C_max hr
 have HR := Aside0.mk hr
 clear hr
 by_cases hl : 2000 < l.length
 ·have hl' : (2000 : Int) < (l.length : Int) := by omega
  have hc' : (2000 : Int) ≤ (c : Int) := by omega
  have hlen : (l.take 2000).length = 2000 := by rw [List.length_take]; omega
  go_enter Try.func67, Try.ntmps67
  go_wp2
  go_ret
  refine OpenP.mk (rb := w.heap.size) (s := l.take 2000) rfl ⟨by omega, fun x hx => hb x (List.mem_of_mem_take hx)⟩ ⟨⟨A, c, ?_, Kd.C_take HR.out (by omega)⟩, below_alloc (Below.refl _ _) _, Nat.le_refl _, Int.le_refl _⟩ (below_alloc (Below.refl _ _) _)
  rw [hlen]; exact blk_new w _
 ·have hl' : ¬ (2000 : Int) < (l.length : Int) := by omega
  go_enter Try.func67, Try.ntmps67
  go_wp2
  go_ret
  exact OpenP.mk (rb := w.heap.size) (s := l) rfl ⟨by omega, hb⟩ ⟨⟨A, c, blk_new w _, HR.out⟩, below_alloc (Below.refl _ _) _, Nat.le_refl _, Int.le_refl _⟩ (below_alloc (Below.refl _ _) _)
section
variable {P : Program} {ops : Array Oper} {rest : List Oper} {o : Oper} {a : Act} {Q : Exit → Act → World → Prop}
theorem storeI {w0 W : World} {base : Nat} (hN : o.dst = none) (hgd : o.guard = none) {t : TypeId} {p x : Operand} (ho : o.op = .store t p x) {e g n cap o' : Nat} (k j : Nat) {xs : List It} (x0 x' : It) (u : Int) {ok : Nat → Prop}
  (haddr : a.eval p = .pointer (some ⟨g, o', none⟩)) (hoff : o' = k * 3 + j) (hu : a.eval x = .int .i64 u) (ht : (P.info? t).map (·.size) = some 1)
  (HO : kIt.R e W base ok (.slice (some ⟨g, 0, none⟩) n cap) xs) (hx0 : xs[k]? = some x0) (hi : k < n) (hj : j < 3) (hx : vIt x' = (vIt x0).take j ++ [.int .i64 u] ++ (vIt x0).drop (j + 1)) (HB : Below base w0 W)
  (h : ∀ w1, kIt.R e w1 base ok (.slice (some ⟨g, 0, none⟩) n cap) (xs.set k x') → Below base w0 w1 → W.grownBy w1 (some g) → wpList P ops Q rest a w1) : wpList P ops Q (o :: rest) a W := by
 have hl : k < xs.length := (List.getElem?_eq_some_iff.1 hx0).1
 obtain ⟨c, hcl, hM, hcc, _⟩ := Kd.R_elem HO x0 (k : Int) (by omega) (by omega)
 simp only [Int.toNat_natCast] at hcc hM
 have e0 : xs.getD k x0 = x0 := by simp [List.getD, hx0]
 rw [e0] at hM
 have ec := kIt_M.1 hM
 subst ec
 refine Kd.R_store kIt base hN hgd t p x ho e (k : Int) j _ x' _ [.int .i64 u] (vIt x0) ok (fun _ => False) haddr (by rw [Int.toNat_natCast]; exact hoff) rfl (by rw [hu]; rfl) ht (fun q hq => by simp at hq; subst hq; rfl) HO (by omega) (by omega) hcl (by simpa using hcc) (by show j + 1 ≤ 3; omega) ?_ (fun _ hq => hq.elim) HB (by simpa using h)
 exact kIt_M.2 hx.symm
end
def SetD (l : List It) : Prop := massI l ≤ 30 ∧ l.length ≤ 9
def SetP (w0 : World) (rb : Nat) (s : List Int) (p : Int) (W : World) (e : Ending) (W' : World) : Prop := ∃ (v : Value) (l : List It), e = .returned v ∧ kIt.R 118 W' W.heap.size okT v l ∧ SetD l ∧ Adv w0 rb s p 100 W W'
theorem SetP.mk {w0 : World} {rb : Nat} {s : List Int} {p : Int} {W W' : World} {v : Value} {l : List It} (h : kIt.R 118 W' W.heap.size okT v l) (hd : SetD l) (ha : Adv w0 rb s p 100 W W') : SetP w0 rb s p W (.returned v) W' := ⟨v, l, rfl, h, hd, ha⟩
theorem small_massI {l : List Rw} (h : ∀ r ∈ l, small r) (t : Tm) (hl : l.length ≤ 8) : massI (batchAt l t) ≤ 24 ∧ (batchAt l t).length ≤ 8 := by
 have hm : mass l ≤ 3 * l.length := mass_le (c := 3) fun r hr => by have := h r hr; unfold small at this; omega
 unfold batchAt
 split
 ·have h1 : massI (presentOf l t) ≤ mass l := by
   unfold presentOf
   rw [mass_itemOf]; unfold mass
   rw [sg_filter]
   exact sg_le fun r _ => by split <;> omega
  have h2 := presentOf_len l t
  have h3 := items_length (presentOf l t)
  have h4 := items_mass (l := presentOf l t) (by omega)
  unfold present
  exact ⟨by omega, by omega⟩
 ·simp [massI, sg]
theorem massI_set : ∀ {xs : List It} {m : Nat} {x y : It}, xs[m]? = some x → massI (xs.set m y) + (x.f2.natAbs : Int) = massI xs + (y.f2.natAbs : Int)
 | z :: xs, 0, x, y, h => by
  have : z = x := by simpa using h
  subst this
  simp only [List.set_cons_zero, massI, sg]; omega
 | z :: xs, m + 1, x, y, h => by
  have := massI_set (xs := xs) (m := m) (x := x) (y := y) (by simpa using h)
  simp only [List.set_cons_succ, massI, sg] at this ⊢; omega
set_option maxRecDepth 100000 in
set_option maxHeartbeats 4000000 in
theorem spec_l71Set {w0 W : World} {rb : Nat} {s : List Int} {p : Int} (hS : Aside0 (RS s)) (h : Rd w0 rb s p W) (hp : p ≤ 500000) : Calls Try.prog 101 #[.pointer (some ⟨rb, 0, none⟩)] W (SetP w0 rb s p W) := by
 have hbl := h.lt
 have hge := h.ge
 have hbs := h.bel.size
 have hnn := h.nn
 have HR := Aside0.mk h
 have HV := Aside0.mk (show W.grownBy W (some rb) from ⟨rfl, rfl, rfl, Nat.le_refl _, fun _ _ _ => rfl⟩)
 have C1 := spec_l71Rows hS h (by omega) 8 (by omega)
 rw [show ((8 : Nat) : Int) = 8 from rfl] at C1
 clear h
 go_enter Try.func101, Try.ntmps101
 go_upto_region 2 with (first
  | (go_at_call 127; ((with_reducible refine C1.mono ?_); rintro e wa ⟨va, la, rfl, hra, hsm, hla, hadv⟩; have HLA := Aside0.mk hsm; have HRA := Aside0.mk hra; obtain ⟨p1, g0, g1, hr1, hg1⟩ := hadv; replace HR := Aside0.mk hr1; replace HV := Aside0.mk hg1; clear hr1 hg1 hra hsm))
  | (go_at_call 90; ((with_reducible refine (spec_BatchAt va la ⟨7, 7⟩ wa (Sl.of_R HRA.out)).mono ?_); rintro e wb ⟨vb, rfl, hrb, hbb⟩; have hsa := HV.out.size; have HO := Aside0.mk (R_off (Kd.R_lower hrb hsa) hbl); replace HR := Aside0.mk (HR.out.below hbb); replace HV := Aside0.mk (grownBy_after HV.out hbb); clear hrb hbb)))
 obtain ⟨hm24, hl8⟩ := small_massI HLA.out ⟨7, 7⟩ hla
 generalize batchAt la ⟨7, 7⟩ = xs at *
 clear HLA HRA C1 hsa
 go_upto_region 3 with (go_at_call 69; ((with_reducible refine (spec_pick hS.out HR.out (by omega) _ (by omega) (by omega)).mono ?_); rintro e w' ⟨t, rfl, t0, t1, hr, hg⟩; replace HO := Aside0.mk (R_pick HO.out hg (fun q hq => by first | exact hq | exact hq.1 | exact hq.2)); replace HV := Aside0.mk (gthen HV.out hg); replace HR := Aside0.mk hr; clear hr hg))
 by_cases ht0 : t = 0
 ·have htb : (t == 0) = true := by rw [ht0]; rfl
  have HT := Aside0.mk ht0
  clear ht0
  go_wp2_with (first
   | (go_at_call 69; ((with_reducible refine (spec_pick hS.out HR.out (by omega) 6 (by omega) (by omega)).mono ?_); rintro e w' ⟨a, rfl, a0, a1, hr, hg⟩; replace HO := Aside0.mk (R_pick HO.out hg (fun q hq => by first | exact hq | exact hq.1 | exact hq.2)); replace HV := Aside0.mk (gthen HV.out hg); replace HR := Aside0.mk hr; clear hr hg))
   | (go_at_call 69; ((with_reducible refine (spec_pick hS.out HR.out (by omega) 120 (by omega) (by omega)).mono ?_); rintro e w' ⟨b, rfl, b0, b1, hr, hg⟩; replace HO := Aside0.mk (R_pick HO.out hg (fun q hq => by first | exact hq | exact hq.1 | exact hq.2)); replace HV := Aside0.mk (gthen HV.out hg); replace HR := Aside0.mk hr; clear hr hg))
   | (go_at_call 69; ((with_reducible refine (spec_pick hS.out HR.out (by omega) 3 (by omega) (by omega)).mono ?_); rintro e w' ⟨c, rfl, c0, c1, hr, hg⟩; replace HO := Aside0.mk (R_pick HO.out hg (fun q hq => by first | exact hq | exact hq.1 | exact hq.2)); replace HV := Aside0.mk (gthen HV.out hg); replace HR := Aside0.mk hr; clear hr hg))
   | (at_builtin; refine appIt (base := W.heap.size) (xs := xs) (ok := fun q => q ≠ rb) rfl rfl rfl HO.out (fun q hq => by have := HV.out.size; omega) (Below.refl _ _) HV.out.size (by omega) ?_; intro v1 w1 hr1 hb1 hg1 ha1; have HO2 := Aside0.mk hr1; replace HV := Aside0.mk (gthenB HV.out hb1); replace HR := Aside0.mk (HR.out.belowB hb1 hbl); clear hr1 hb1 hg1 ha1))
  go_ret
  refine SetP.mk (Kd.R_mono HO2.out (fun _ _ => trivial)) ⟨?_, by rw [List.length_append, List.length_singleton]; omega⟩ (Adv.mk' (by omega) (by omega) HR.out HV.out)
  rw [massI_append]
  have : massI [(⟨a - 1, b - 5, c - 1⟩ : It)] = ((c - 1).natAbs : Int) := by simp [massI, sg]
  omega
 ·have htb : (t == 0) = false := by simp [ht0]
  by_cases ht1 : t = 1
  ·have htc : (t == 1) = true := by rw [ht1]; rfl
   have HT := Aside0.mk ht1
   clear ht1 ht0
   by_cases hz : xs.length = 0
   ·obtain rfl : xs = [] := List.eq_nil_of_length_eq_zero hz
    obtain ⟨A3, c3, e3, _, _⟩ := Sl.of_R HO.out
    cases e3
    go_wp2
    go_ret
    exact SetP.mk (Kd.R_mono HO.out (fun _ _ => trivial)) ⟨by omega, by omega⟩ (Adv.mk' (by omega) (by omega) HR.out HV.out)
   ·have hpos : (0 : Int) < (xs.length : Int) := by omega
    obtain ⟨g, cap, rfl, hgl, hgh⟩ := formR HO.out rfl (by omega)
    go_wp2_with (first
     | (go_at_call 69; ((with_reducible refine (spec_pick hS.out HR.out (by omega) (xs.length : Int) (by omega) (by omega)).mono ?_); rintro e w' ⟨j, rfl, j0, j1, hr, hg⟩; replace HO := Aside0.mk (R_pick HO.out hg (fun q hq => by first | exact hq | exact hq.1 | exact hq.2)); replace HV := Aside0.mk (gthen HV.out hg); replace HR := Aside0.mk hr; clear hr hg; obtain ⟨m, rfl⟩ := Int.eq_ofNat_of_zero_le j0; have hm : m < xs.length := (by omega); obtain ⟨x, hx⟩ : ∃ x, xs[m]? = some x := ⟨_, List.getElem?_eq_getElem hm⟩))
     | (refine storeI (base := W.heap.size) rfl rfl rfl m 2 x ⟨x.f0, x.f1, 0⟩ 0 (by first | rfl | simp) (by first | rfl | omega) (by first | rfl | (simp [*]; done)) (by kernel_rfl) HO.out hx hm (by decide) rfl (Below.refl _ _) ?_; intro w1 hr1 hb1 hg1; have HO2 := Aside0.mk hr1; replace HV := Aside0.mk (gthenB HV.out hb1); replace HR := Aside0.mk (HR.out.belowB hb1 hbl); clear hr1 hb1 hg1))
    go_ret
    refine SetP.mk (Kd.R_mono HO2.out (fun _ _ => trivial)) ⟨?_, by rw [List.length_set]; omega⟩ (Adv.mk' (by omega) (by omega) HR.out HV.out)
    have := massI_set (y := ⟨x.f0, x.f1, 0⟩) hx
    have e0 : ((⟨x.f0, x.f1, 0⟩ : It).f2.natAbs : Int) = 0 := rfl
    omega
  ·have htc : (t == 1) = false := by simp [ht1]
   go_wp2
   go_ret
   exact SetP.mk (Kd.R_mono HO.out (fun _ _ => trivial)) ⟨by omega, by omega⟩ (Adv.mk' (by omega) (by omega) HR.out HV.out)
end Go.Proofs.Ytkdendlgaaimbaa.X
namespace Go.Proofs.Ytkdendlgaaimbaa.X
open Go.RowKit Go.Proofs.YtkdendlgaaimbaaW.PrintWords
set_option linter.unusedVariables false
set_option linter.unusedSimpArgs false
end Go.Proofs.Ytkdendlgaaimbaa.X
namespace Go.Proofs.Ytkdendlgaaimbaa.X
open Go.RowKit Go.Proofs.YtkdendlgaaimbaaW.PrintWords
set_option linter.unusedVariables false
set_option linter.unusedSimpArgs false
def oneI (x : It) : It := ⟨x.f0, x.f1, 1⟩
def onceL (s : List It) : List It := (s.filter fun x => decide (0 < x.f2)).map oneI
theorem onceL_snoc {s : List It} {k : Nat} {x : It} (hx : s[k]? = some x) : onceL (s.take (k + 1)) = onceL (s.take k) ++ (if 0 < x.f2 then [oneI x] else []) := by
 rw [take_snoc hx]; unfold onceL; rw [List.filter_append, List.map_append]
 by_cases h : 0 < x.f2 <;> simp [h]
theorem onceL_len (s : List It) : (onceL s).length ≤ s.length := by unfold onceL; rw [List.length_map]; exact List.length_filter_le _ _
def leastF (p : Option Int) : List It → List It
 | [] => []
 | x :: l => if p = some x.f0 then leastF p l else x :: leastF (some x.f0) l
def lastK (p : Option Int) : List It → Option Int
 | [] => p
 | x :: l => lastK (some x.f0) l
theorem leastF_len : ∀ (l : List It) (p : Option Int), (leastF p l).length ≤ l.length
 | [], p => by simp [leastF]
 | x :: l, p => by
  rw [leastF]
  have h1 := leastF_len l p
  have h2 := leastF_len l (some x.f0)
  split <;> simp <;> omega
theorem leastF_snoc : ∀ (l : List It) (p : Option Int) (x : It), leastF p (l ++ [x]) = leastF p l ++ (if lastK p l = some x.f0 then [] else [x])
 | [], p, x => rfl
 | y :: l, p, x => by
  rw [List.cons_append, leastF, leastF, lastK]
  by_cases h : p = some y.f0
  ·rw [if_pos h, if_pos h, leastF_snoc l p x, h]
  ·rw [if_neg h, if_neg h, leastF_snoc l _ x, List.cons_append]
theorem lastK_snoc : ∀ (l : List It) (p : Option Int) (x : It), lastK p (l ++ [x]) = some x.f0
 | [], p, x => rfl
 | y :: l, p, x => by rw [List.cons_append, lastK, lastK_snoc l _ x]
theorem lastK_take {l : List It} : ∀ {k : Nat}, k ≤ l.length → lastK none (l.take k) = ((leastF none (l.take k)).getLast?).map (·.f0)
 | 0, _ => by simp [lastK, leastF]
 | k + 1, h => by
  have ih := lastK_take (l := l) (k := k) (by omega)
  obtain ⟨x, hx⟩ : ∃ x, l[k]? = some x := ⟨_, List.getElem?_eq_getElem (by omega)⟩
  rw [take_snoc hx, lastK_snoc, leastF_snoc]
  split
  ·rename_i hl
   rw [List.append_nil, ← ih, hl]
  ·simp
def leastL (s : List It) : List It := leastF none (onceL s)
def setOnce (s : List It) : List It := if setOk s then onceL s else []
set_option maxRecDepth 100000 in
set_option maxHeartbeats 2000000 in
theorem impl_once (v : Value) (s : List It) (w : World) (h : Sl kIt w v s) (hl1 : s.length ≤ 100000) : Calls Try.prog 186 #[v] w (RetR kIt 118 w (onceL s)) := by
 obtain ⟨A, c_, rfl, HC, hr⟩ := h
 have hm := Kd.C_max hr
 have HR := Aside0.mk hr
 clear hr
 have HB := Aside0.mk (Below.refl w.heap.size w)
 go_enter Try.func186, Try.ntmps186
 go_wp2
 go_loopw [3, 9] (fun o i wr => ∃ (k : Nat), k ≤ s.length ∧ i = .int .i64 k ∧ Aside0 (kIt.R 118 wr w.heap.size okT o (onceL (s.take k))) ∧ Aside0 (Below w.heap.size w wr)) (fun _ i _ => s.length - (intOf i).toNat)
 case atStart => exact ⟨0, Nat.zero_le _, rfl, ⟨R_none (blk_new w _) (Nat.le_refl _) trivial⟩, ⟨below_alloc HB.out _⟩⟩
 case round =>
  clear HB
  obtain ⟨k, hk, rfl, HO, HB⟩ := hrel
  by_cases hlt : k < s.length
  ·obtain ⟨ad, x, e, HX, h0, h1, h2⟩ := rdIt HR.out HB.out hlt
   cases e
   have hws := HB.out.size
   have hpl : (onceL (s.take k)).length ≤ k := Nat.le_trans (onceL_len _) (by rw [List.length_take]; omega)
   by_cases hp : 0 < x.f2
   ·go_upto_region 5 with fail
    refine name_world fun W hW => ?_
    have B0 : W.heap[wr.heap.size]? = some (.cells #[.int .i64 x.f0, .int .i64 x.f1, .int .i64 x.f2] 118 (0, 0)) := by rw [hW]; exact blk_new wr _
    have hb1 : Below wr.heap.size wr W := by rw [hW]; repeat (first | exact Below.refl _ _ | apply below_alloc | refine below_set ?_ (by simp))
    clear hW
    generalize hX : wr.heap.size = X at B0 ⊢
    replace HB := Aside0.mk (bthen HB.out hb1)
    have HO1 := Aside0.mk (Kd.R_below HO.out hb1)
    have b0 := blk_cell B0 0
    have b1 := blk_cell B0 1
    have b2 := blk_cell B0 2
    clear h0 h1 h2 hb1 hX HO
    go_wp2_with (at_builtin; refine appIt (w0 := w) (base := w.heap.size) (xs := onceL (s.take k)) (ok := okT) rfl rfl rfl HO1.out (fun _ _ => trivial) HB.out (by have := HB.out.size; omega) (by omega) ?_; intro v1 w1 hr1 hb1 hg1 ha1; have HO2 := Aside0.mk hr1; have HG_ := Aside0.mk hg1; replace HB := Aside0.mk hb1; clear hr1 hb1 hg1 ha1)
    go_roundw
    case rel => exact ⟨k + 1, by omega, by go_num, ⟨by rw [onceL_snoc HX.out, if_pos hp]; exact HO2.out⟩, HB⟩
    case measure => simp [intOf]; omega
   ·go_wp2
    go_roundw
    case rel => exact ⟨k + 1, by omega, by go_num, ⟨by rw [onceL_snoc HX.out, if_neg hp, List.append_nil]; exact Kd.R_alloc HO.out _⟩, ⟨below_alloc HB.out _⟩⟩
    case measure => simp [intOf]; omega
  ·obtain rfl : k = s.length := by omega
   rw [List.take_length] at HO
   go_wp2
   go_ret
   exact RetR.mk HO.out HB.out
set_option maxRecDepth 100000 in
set_option maxHeartbeats 2000000 in
theorem impl_leastOf (v : Value) (s : List It) (w : World) (h : Sl kIt w v s) (hl1 : s.length ≤ 100000) : Calls Try.prog 187 #[v] w (RetR kIt 118 w (leastL s)) := by
 have HS := Aside0.mk h
 have hol := onceL_len s
 have HB := Aside0.mk (Below.refl w.heap.size w)
 go_enter Try.func187, Try.ntmps187
 have HN := Aside0.mk (R_none (d := kIt) (e := 118) (base := w.heap.size) (ok := okT) (blk_new w (.cells #[] 118)) (Nat.le_refl _) trivial)
 replace HB := Aside0.mk (below_alloc HB.out (.cells #[] 118))
 unfold leastL
 generalize hos : onceL s = os at *
 go_wp2_with (go_at_call 186; ((with_reducible refine (impl_once _ s _ (HS.out.below HB.out) hl1).mono ?_); rintro e wb ⟨u, rfl, hr, hb⟩; rw [hos] at hr; obtain ⟨A, c_, rfl, hc, hC⟩ := Sl.of_R hr; have hm := Kd.C_max hC; have HU := Aside0.mk (Kd.R_mono (ok' := fun q => w.heap.size < q ∧ q < wb.heap.size) (Kd.R_bound (Kd.R_lower hr (by simp : w.heap.size + 1 ≤ _))) (fun q hq => ⟨by have := hq.2.1; omega, hq.2.2.1⟩)); replace HU := Aside0.mk (Kd.R_lower HU.out (Nat.le_succ _)); replace HN := Aside0.mk (Kd.R_mono (ok' := fun q => q = w.heap.size ∨ wb.heap.size ≤ q) (Kd.R_below (Kd.R_bound HN.out) hb) (fun q hq => Or.inl (by have h1 := hq.2.1; have h2 := hq.2.2.1; simp at h2; omega))); replace HB := Aside0.mk (bthen HB.out hb); clear hr hb hC))
 have hwb := HB.out.size
 go_loopw [3, 10] (fun o i wr => ∃ (k : Nat), k ≤ os.length ∧ i = .int .i64 k ∧ Aside0 (kIt.R 118 wr w.heap.size (fun q => q = w.heap.size ∨ wb.heap.size ≤ q) o (leastF none (os.take k))) ∧ Aside0 (kIt.R 118 wr w.heap.size (fun q => w.heap.size < q ∧ q < wb.heap.size) (.slice A os.length c_) os) ∧ Aside0 (Below w.heap.size w wr) ∧ wb.heap.size ≤ wr.heap.size) (fun _ i _ => os.length - (intOf i).toNat)
 case atStart => exact ⟨0, Nat.zero_le _, rfl, ⟨by simpa [leastF] using HN.out⟩, HU, HB, Nat.le_refl _⟩
 case round =>
  clear HB HN HU
  obtain ⟨k, hk, rfl, HO, HU, HB, hwr⟩ := hrel
  by_cases hlt : k < os.length
  ·obtain ⟨ad, x, e, HX, h0, h1, h2⟩ := rdIt (Kd.R_reads' HU.out).2.2 (Below.refl _ _) hlt
   cases e
   have hws := HB.out.size
   have hpl : (leastF none (os.take k)).length ≤ k := Nat.le_trans (leastF_len _ _) (by rw [List.length_take]; omega)
   have HL := Aside0.mk (lastK_take (l := os) (k := k) (by omega))
   have HSn := Aside0.mk (leastF_snoc (os.take k) none x)
   rw [← take_snoc HX.out] at HSn
   go_upto_region 5 with fail
   refine name_world fun W hW => ?_
   have B0 : W.heap[wr.heap.size]? = some (.cells #[.int .i64 x.f0, .int .i64 x.f1, .int .i64 x.f2] 118 (0, 0)) := by rw [hW]; exact blk_new wr _
   have hb1 : Below wr.heap.size wr W := by rw [hW]; repeat (first | exact Below.refl _ _ | apply below_alloc | refine below_set ?_ (by simp))
   clear hW
   generalize hX : wr.heap.size = X at B0 ⊢
   replace HB := Aside0.mk (bthen HB.out hb1)
   have hwr0 := Nat.le_trans hwr hb1.size
   replace HO := Aside0.mk (Kd.R_below HO.out hb1)
   replace HU := Aside0.mk (Kd.R_below HU.out hb1)
   have b0 : W.cell? ⟨X, 0, none⟩ = some (.int .i64 x.f0) := blk_cell B0 0
   have b1 : W.cell? ⟨X, 1, none⟩ = some (.int .i64 x.f1) := blk_cell B0 1
   have b2 : W.cell? ⟨X, 2, none⟩ = some (.int .i64 x.f2) := blk_cell B0 2
   clear h0 h1 h2 hb1 hX
   generalize leastF none (os.take k) = acc at *
   by_cases hz : acc.length = 0
   ·obtain rfl : acc = [] := List.eq_nil_of_length_eq_zero hz
    obtain ⟨A5, c5, e5, _, _⟩ := Sl.of_R HO.out
    cases e5
    refine wp_region_ext (by kernel_rfl) (by kernel_rfl) ?_
    repeat (any_goals (first | go_big_quiet_step (fail) | quiet_step (fail) | (refine wpQuiet_step (fun K hK => ?_); go_simp; split <;> (refine hK _ ?_; clear hK K))))
    all_goals (refine wpQuiet_nil ?_; intro u)
    replace b0 : u.w'.cell? ⟨X, 0, none⟩ = some (.int .i64 x.f0) := pw_cell_below u.bel b0
    replace b1 : u.w'.cell? ⟨X, 1, none⟩ = some (.int .i64 x.f1) := pw_cell_below u.bel b1
    replace b2 : u.w'.cell? ⟨X, 2, none⟩ = some (.int .i64 x.f2) := pw_cell_below u.bel b2
    replace HO := Aside0.mk (Kd.R_below HO.out u.bel)
    replace HU := Aside0.mk (Kd.R_below HU.out u.bel)
    replace HB := Aside0.mk (bthen HB.out u.bel)
    have hws2 := HB.out.size
    have hwr1 := Nat.le_trans hwr0 u.bel.size
    generalize u.w' = W2 at *
    go_wp2_with (at_builtin; (refine appIt (w0 := w) (base := w.heap.size) (xs := ([] : List It)) (ok := fun q => q = w.heap.size ∨ wb.heap.size ≤ q) rfl rfl rfl HO.out (fun q hq => Or.inr (by omega)) HB.out (by omega) (by omega) ?_; intro v1 w1 hr1 hb1 hg1 ha1; have HO2 := Aside0.mk hr1; have HU2 := Aside0.mk (Kd.R_grown HU.out hg1 (fun q hq e => by rcases HO.out.1 q e.symm with e2 | e2 <;> omega)); replace HB := Aside0.mk hb1; have hwr2 := Nat.le_trans hwr1 hg1.size; clear hr1 hb1 hg1 ha1))
    go_roundw
    case rel => exact ⟨k + 1, by omega, by go_num, ⟨by rw [HSn.out, if_neg (by rw [HL.out]; simp)]; exact HO2.out⟩, HU2, HB, hwr2⟩
    case measure => simp [intOf]; omega
   ·obtain ⟨A5, c5, e5, hc5, hC5⟩ := Sl.of_R HO.out
    cases e5
    obtain ⟨j, hj⟩ : ∃ j, acc.length = j + 1 := ⟨acc.length - 1, by omega⟩
    obtain ⟨ad2, y, e, HY, i0, i1, i2⟩ := rdIt hC5 (Below.refl _ _) (k := j) (by omega)
    cases e
    clear hC5
    have p0 := fun u => Ext.cell b0 u
    have q0 := fun u => Ext.cell i0 u
    have e1 : IntKind.i64.wrap ((acc.length : Int) - 1) = j := by rw [wrapI]; unfold wrap64; omega
    have e2 : (j : Int) < (acc.length : Int) := by omega
    have e3 : j < acc.length := by omega
    have hzb : ((acc.length : Int) == 0) = false := beq_eq_false_iff_ne.2 (by omega)
    have HJ := Aside0.mk hj
    clear hj
    refine wp_region_ext (by kernel_rfl) (by kernel_rfl) ?_
    repeat (any_goals (first | go_big_quiet_step (fail) | quiet_step (fail) | (refine wpQuiet_step (fun K hK => ?_); go_simp; split <;> (refine hK _ ?_; clear hK K))))
    all_goals (refine wpQuiet_nil ?_; intro u)
    replace b0 : u.w'.cell? ⟨X, 0, none⟩ = some (.int .i64 x.f0) := pw_cell_below u.bel b0
    replace b1 : u.w'.cell? ⟨X, 1, none⟩ = some (.int .i64 x.f1) := pw_cell_below u.bel b1
    replace b2 : u.w'.cell? ⟨X, 2, none⟩ = some (.int .i64 x.f2) := pw_cell_below u.bel b2
    replace HO := Aside0.mk (Kd.R_below HO.out u.bel)
    replace HU := Aside0.mk (Kd.R_below HU.out u.bel)
    replace HB := Aside0.mk (bthen HB.out u.bel)
    have hws2 := HB.out.size
    have hwr1 := Nat.le_trans hwr0 u.bel.size
    clear p0 q0 i0 i1 i2 e1 e2 e3 hzb
    generalize u.w' = W2 at *
    have HLY := Aside0.mk (show (acc.getLast?).map (·.f0) = some y.f0 by rw [List.getLast?_eq_getElem?, HJ.out, Nat.add_sub_cancel, HY.out]; rfl)
    cases hd : (y.f0 == x.f0)
    ·have HD := Aside0.mk hd
     go_wp2_with (at_builtin; (refine appIt (w0 := w) (base := w.heap.size) (xs := acc) (ok := fun q => q = w.heap.size ∨ wb.heap.size ≤ q) rfl rfl rfl HO.out (fun q hq => Or.inr (by omega)) HB.out (by omega) (by omega) ?_; intro v1 w1 hr1 hb1 hg1 ha1; have HO2 := Aside0.mk hr1; have HU2 := Aside0.mk (Kd.R_grown HU.out hg1 (fun q hq e => by rcases HO.out.1 q e.symm with e2 | e2 <;> omega)); replace HB := Aside0.mk hb1; have hwr2 := Nat.le_trans hwr1 hg1.size; clear hr1 hb1 hg1 ha1))
     go_roundw
     case rel => exact ⟨k + 1, by omega, by go_num, ⟨by rw [HSn.out, if_neg (by rw [HL.out, HLY.out]; intro e; have := HD.out; simp at this; exact this (Option.some.inj e))]; exact HO2.out⟩, HU2, HB, hwr2⟩
     case measure => simp [intOf]; omega
    ·have HD := Aside0.mk hd
     go_wp2
     go_roundw
     case rel => exact ⟨k + 1, by omega, by go_num, ⟨by rw [HSn.out, if_pos (by rw [HL.out, HLY.out]; have := HD.out; simp at this; rw [this]), List.append_nil]; exact HO.out⟩, HU, HB, hwr1⟩
     case measure => simp [intOf]; omega
  ·obtain rfl : k = os.length := by omega
   rw [List.take_length] at HO
   go_wp2
   go_ret
   exact RetR.mk (Kd.R_mono HO.out (fun _ _ => trivial)) HB.out
end Go.Proofs.Ytkdendlgaaimbaa.X
namespace Go.Proofs.Ytkdendlgaaimbaa.X
open Go.RowKit Go.Proofs.YtkdendlgaaimbaaW.PrintWords
set_option linter.unusedVariables false
set_option linter.unusedSimpArgs false
theorem set_take {α : Type} {l : List α} {k : Nat} {x : α} (f : α → α) (hx : l[k]? = some x) : ((l.take k).map f ++ l.drop k).set k (f x) = (l.take (k + 1)).map f ++ l.drop (k + 1) := by
 obtain ⟨hlt, rfl⟩ := List.getElem?_eq_some_iff.1 hx
 have hl : ((l.take k).map f).length = k := by rw [List.length_map, List.length_take]; omega
 rw [List.set_append_right _ _ (by omega), hl, Nat.sub_self, List.drop_eq_getElem_cons hlt, List.set_cons_zero, List.take_succ_eq_append_getElem hlt, List.map_append, List.append_assoc]
 rfl
theorem get_take {α : Type} {l : List α} {k : Nat} {x : α} (f : α → α) (hx : l[k]? = some x) : ((l.take k).map f ++ l.drop k)[k]? = some x := by
 obtain ⟨hlt, rfl⟩ := List.getElem?_eq_some_iff.1 hx
 have hl : ((l.take k).map f).length = k := by rw [List.length_map, List.length_take]; omega
 rw [List.getElem?_append_right (by omega), hl, Nat.sub_self, List.getElem?_drop]; simp [hlt]
theorem len_take {α : Type} {l : List α} {k : Nat} (f : α → α) (hk : k ≤ l.length) : ((l.take k).map f ++ l.drop k).length = l.length := by
 rw [List.length_append, List.length_map, List.length_take, List.length_drop]; omega
set_option maxRecDepth 100000 in
set_option maxHeartbeats 2000000 in
theorem impl_SetLess (v : Value) (s : List It) (w : World) (h : Sl kIt w v s) : Calls Try.prog 157 #[v] w (RetR kIt 118 w (setLess s)) := by
 have HS := Aside0.mk h
 obtain ⟨A, c_, rfl, HC, hr⟩ := h
 have hm := Kd.C_max hr
 have HR := Aside0.mk hr
 clear hr
 cases hs : setOk s
 ·have HB := Aside0.mk (Below.refl w.heap.size w)
  go_enter Try.func157, Try.ntmps157
  go_wp2_with (go_at_call 43; ((with_reducible refine (impl_SetOk _ s _ (HS.out.below HB.out)).mono ?_); rintro e w' ⟨rfl, hb⟩; replace HB := Aside0.mk (bthen HB.out hb); clear hb))
  go_ret
  exact RetR.mk (by rw [setLess, hs]; exact Kd.R_nil _ _ _ _ _) HB.out
 ·have hl1 := setOk_len hs
  have HB := Aside0.mk (Below.refl w.heap.size w)
  go_enter Try.func157, Try.ntmps157
  go_upto_region 4 with (first
   | (go_at_call 43; ((with_reducible refine (impl_SetOk _ s _ (HS.out.below HB.out)).mono ?_); rintro e wb ⟨rfl, hb⟩; replace HB := Aside0.mk (bthen HB.out hb); (have HN := Aside0.mk (R_none (d := kIt) (e := 118) (base := w.heap.size) (ok := okT) (blk_new wb (.cells #[] 118)) HB.out.size trivial); replace HB := Aside0.mk (below_alloc HB.out (.cells #[] 118))); clear hb))
   | (at_builtin; refine appsIt (w0 := w) (base := w.heap.size) (xs := []) (ys := s) (ok := okT) rfl rfl (HS.out.below HB.out) HN.out (fun _ _ => trivial) HB.out HB.out.size (by first | omega | (simp; omega)) ?_; intro v1 w' hr1 hb1 hg1 ha1; have HO := Aside0.mk hr1; replace HB := Aside0.mk hb1; clear hr1 hb1 hg1 ha1))
  rw [List.nil_append] at HO
  obtain ⟨A3, c3, rfl, hc3, hC3⟩ := Sl.of_R HO.out
  clear hC3
  go_wp2
  go_loopw [13] (fun i wr => ∃ (k : Nat), k ≤ s.length ∧ i = .int .i64 k ∧ Aside0 (kIt.R 118 wr w.heap.size okT (.slice A3 s.length c3) ((s.take k).map negI ++ s.drop k)) ∧ Aside0 (Below w.heap.size w wr)) (fun i _ => s.length - (intOf i).toNat)
  case atStart => exact ⟨0, Nat.zero_le _, rfl, by simpa using HO, HB⟩
  case round =>
   clear HB HO
   obtain ⟨k, hk, rfl, HO, HB⟩ := hrel
   by_cases hlt : k < s.length
   ·obtain ⟨g, cap, e, hg1, hg2⟩ := formR HO.out (n := s.length) (len_take negI hk) (by omega)
    cases e
    obtain ⟨x, hx⟩ : ∃ x, s[k]? = some x := ⟨_, List.getElem?_eq_getElem hlt⟩
    have hgx := get_take negI hx
    have HX := Aside0.mk hx
    obtain ⟨ad, x', e, HX', h0, h1, h2⟩ := rdIt (Kd.R_reads' HO.out).2.2 (Below.refl _ _) (k := k) (by rw [len_take negI hk]; exact hlt)
    cases e
    have ex : x' = x := Option.some.inj (HX'.out.symm.trans hgx)
    subst ex
    have h2' : wr.cell? ⟨g, k * 3 + 2, none⟩ = some (.int .i64 x'.f2) := by rw [add_plain] at h2; exact h2
    clear h0 h1 h2 hx
    go_wp2_with (refine storeI (base := w.heap.size) rfl rfl rfl k 2 x' (negI x') (wrap64 (-x'.f2)) (by first | rfl | simp) (by first | rfl | omega) (by first | rfl | (simp [*]; done)) (by kernel_rfl) HO.out hgx hlt (by decide) rfl HB.out ?_; intro w1 hr1 hb1 hg1; have HO2 := Aside0.mk hr1; replace HB := Aside0.mk hb1; clear hr1 hb1 hg1)
    go_roundw
    case rel => exact ⟨k + 1, by omega, by go_num, ⟨by rw [← set_take negI HX.out]; exact HO2.out⟩, HB⟩
    case measure => simp [intOf]; omega
   ·obtain rfl : k = s.length := by omega
    rw [List.take_length, List.drop_length, List.append_nil] at HO
    go_wp2
    go_ret
    exact RetR.mk (by rw [setLess, hs]; exact HO.out) HB.out
def keyC (s : List It) (key : Int) : Int := sg (fun x => if x.f0 = key then x.f2 else 0) s
def keyO (s : List It) (key : Int) : List It := onceL (s.filter fun x => decide (x.f0 = key))
def cval (n : Int) : Int := Int.tmod (wrap64 (Int.tmod n 100 + 100)) 100
def keyL (s : List It) (key kind : Int) : List It := if kind = 2 then keyO s key else if kind = 3 then (keyO s key).take 1 else if kind = 1 then (if keyC s key = 0 then [] else [⟨key, cval (keyC s key), 1⟩]) else []
theorem keyO_snoc {s : List It} {k : Nat} {x : It} (hx : s[k]? = some x) (key : Int) : keyO (s.take (k + 1)) key = keyO (s.take k) key ++ (if x.f0 = key ∧ 0 < x.f2 then [oneI x] else []) := by
 rw [take_snoc hx]; unfold keyO onceL; rw [List.filter_append, List.filter_append, List.map_append]
 by_cases h : x.f0 = key
 ·by_cases h2 : 0 < x.f2 <;> simp [h, h2]
 ·simp [h]
theorem keyO_len (s : List It) (key : Int) : (keyO s key).length ≤ s.length := Nat.le_trans (onceL_len _) (List.length_filter_le _ _)
theorem keyC_snoc {s : List It} {k : Nat} {x : It} (hx : s[k]? = some x) (key : Int) : keyC (s.take (k + 1)) key = keyC (s.take k) key + (if x.f0 = key then x.f2 else 0) := by
 rw [take_snoc hx]; unfold keyC; rw [sg_append]; simp [sg]
theorem keyC_abs (s : List It) (key : Int) : ((keyC s key).natAbs : Int) ≤ massI s := by
 induction s with
 | nil => simp [keyC, massI, sg]
 | cons x s ih => unfold keyC massI at *; simp only [sg]; split <;> omega
theorem massI_take (s : List It) (k : Nat) : massI (s.take k) ≤ massI s := by
 conv => rhs; rw [← List.take_append_drop k s, massI_append]
 have := massI_nonneg (s.drop k); omega
set_option maxRecDepth 100000 in
set_option maxHeartbeats 400000 in
theorem spec_l3Count (n : Int) (w : World) : Calls Try.prog 207 #[.int .i64 n] w (fun e w' => e = .returned (.int .i64 (cval n)) ∧ w = w') := by
 go_enter Try.func207, Try.ntmps207
 go_wp2
 go_ret
 exact ⟨rfl, rfl⟩
set_option maxRecDepth 100000 in
set_option maxHeartbeats 4000000 in
theorem spec_l3Key (v : Value) (s : List It) (key kind : Int) (w : World) (h : Sl kIt w v s) (hm0 : massI s < 4611686018427387904) (hl1 : s.length ≤ 100000) (hk1 : 1 ≤ kind) (hk3 : kind ≤ 3) : Calls Try.prog 180 #[v, .int .i64 key, .int .i64 kind] w (RetR kIt 118 w (keyL s key kind)) := by
 obtain ⟨A, c_, rfl, HC, hr⟩ := h
 have hm := Kd.C_max hr
 have HR := Aside0.mk hr
 clear hr
 rcases (show kind = 1 ∨ kind = 2 ∨ kind = 3 by omega) with rfl | rfl | rfl
 ·have HB := Aside0.mk (Below.refl w.heap.size w)
  go_enter Try.func180, Try.ntmps180
  have HN := Aside0.mk (R_none (d := kIt) (e := 118) (base := w.heap.size) (ok := okT) (blk_new w (.cells #[] 118)) (Nat.le_refl _) trivial)
  replace HB := Aside0.mk (below_alloc HB.out (.cells #[] 118))
  go_wp2
  go_loopw [7, 8, 9] (fun o n i wr => ∃ (k : Nat), k ≤ s.length ∧ i = .int .i64 k ∧ n = .int .i64 (keyC (s.take k) key) ∧ Aside0 (kIt.R 118 wr w.heap.size okT o []) ∧ Aside0 (Below w.heap.size w wr)) (fun _ _ i _ => s.length - (intOf i).toNat)
  case atStart => exact ⟨0, Nat.zero_le _, rfl, by simp [keyC, sg], HN, HB⟩
  case round =>
   clear HB HN
   obtain ⟨k, hk, rfl, rfl, HO, HB⟩ := hrel
   by_cases hlt : k < s.length
   ·obtain ⟨ad, x, e, HX, h0, h1, h2⟩ := rdIt HR.out HB.out hlt
    cases e
    have HC := Aside0.mk (keyC_snoc HX.out key)
    have hc1 := keyC_abs (s.take k) key
    have hc2 := massI_take s k
    have hx2 := massI_mem (List.mem_of_getElem? HX.out)
    by_cases hd : x.f0 = key
    ·have hdb : (x.f0 == key) = true := by simpa using hd
     have HD := Aside0.mk hd
     clear hd
     by_cases hp : 0 < x.f2
     all_goals
      go_wp2
      go_roundw
      case rel => exact ⟨k + 1, by omega, by go_num, by rw [HC.out, if_pos HD.out], HO, HB⟩
      case measure => simp [intOf]; omega
    ·have hdb : (x.f0 == key) = false := by simpa using hd
     have HD := Aside0.mk hd
     clear hd
     go_wp2
     go_roundw
     case rel => exact ⟨k + 1, by omega, by go_num, by rw [HC.out, if_neg HD.out, Int.add_zero], HO, HB⟩
     case measure => simp [intOf]; omega
   ·obtain rfl : k = s.length := by omega
    rw [List.take_length]
    have hws := HB.out.size
    cases hz : (keyC s key == 0)
    ·have HZ := Aside0.mk hz
     have hz2 : (keyC s key != 0) = true := by rw [bne, hz]; rfl
     have hnil : ([] : List It).length ≤ 0 := Nat.le_refl _
     go_wp2_with (first | (go_at_call 207; ((with_reducible refine (spec_l3Count _ _).mono ?_); rintro e w' ⟨rfl, rfl⟩)) | (at_builtin; refine appIt (w0 := w) (base := w.heap.size) (xs := ([] : List It)) (ok := okT) rfl rfl rfl HO.out (fun _ _ => trivial) HB.out (by have := HB.out.size; omega) (by omega) ?_; intro v1 w1 hr1 hb1 hg1 ha1; have HO2 := Aside0.mk hr1; have HG_ := Aside0.mk hg1; replace HB := Aside0.mk hb1; clear hr1 hb1 hg1 ha1))
     go_ret
     exact RetR.mk (by have h0 := HZ.out; simp at h0; unfold keyL; rw [if_neg (by decide), if_neg (by decide), if_pos rfl, if_neg h0]; exact HO2.out) HB.out
    ·have HZ := Aside0.mk hz
     have hz2 : (keyC s key != 0) = false := by rw [bne, hz]; rfl
     go_wp2
     go_ret
     exact RetR.mk (by have h0 := HZ.out; simp at h0; unfold keyL; rw [if_neg (by decide), if_neg (by decide), if_pos rfl, if_pos h0]; exact HO.out) HB.out
 ·have HB := Aside0.mk (Below.refl w.heap.size w)
  go_enter Try.func180, Try.ntmps180
  have HN := Aside0.mk (R_none (d := kIt) (e := 118) (base := w.heap.size) (ok := okT) (blk_new w (.cells #[] 118)) (Nat.le_refl _) trivial)
  replace HB := Aside0.mk (below_alloc HB.out (.cells #[] 118))
  go_wp2
  go_loopw [7, 8, 9] (fun o n i wr => ∃ (k : Nat) (n' : Int), k ≤ s.length ∧ i = .int .i64 k ∧ n = .int .i64 n' ∧ Aside0 (kIt.R 118 wr w.heap.size okT o (keyO (s.take k) key)) ∧ Aside0 (Below w.heap.size w wr)) (fun _ _ i _ => s.length - (intOf i).toNat)
  case atStart => exact ⟨0, 0, Nat.zero_le _, rfl, rfl, by simpa [keyO, onceL] using HN, HB⟩
  case round =>
   clear HB HN
   obtain ⟨k, n', hk, rfl, rfl, HO, HB⟩ := hrel
   by_cases hlt : k < s.length
   ·obtain ⟨ad, x, e, HX, h0, h1, h2⟩ := rdIt HR.out HB.out hlt
    cases e
    have HC := Aside0.mk (keyO_snoc HX.out key)
    have hpl : (keyO (s.take k) key).length ≤ k := Nat.le_trans (keyO_len _ key) (by rw [List.length_take]; omega)
    have hws := HB.out.size
    by_cases hd : x.f0 = key
    ·have hdb : (x.f0 == key) = true := by simpa using hd
     have HD := Aside0.mk hd
     clear hd
     by_cases hp : 0 < x.f2
     ·go_wp2_with (at_builtin; refine appIt (w0 := w) (base := w.heap.size) (xs := keyO (s.take k) key) (ok := okT) rfl rfl rfl HO.out (fun _ _ => trivial) HB.out (by have := HB.out.size; omega) (by omega) ?_; intro v1 w1 hr1 hb1 hg1 ha1; have HO2 := Aside0.mk hr1; have HG_ := Aside0.mk hg1; replace HB := Aside0.mk hb1; clear hr1 hb1 hg1 ha1)
      go_roundw
      case rel => exact ⟨k + 1, _, by omega, by go_num, rfl, ⟨by rw [HC.out, if_pos ⟨HD.out, hp⟩]; have h4 := HO2.out; rw [← HD.out] at h4 ⊢; exact h4⟩, HB⟩
      case measure => simp [intOf]; omega
     ·go_wp2
      go_roundw
      case rel => exact ⟨k + 1, _, by omega, by go_num, rfl, ⟨by rw [HC.out, if_neg (fun e => hp e.2), List.append_nil]; exact HO.out⟩, HB⟩
      case measure => simp [intOf]; omega
    ·have hdb : (x.f0 == key) = false := by simpa using hd
     have HD := Aside0.mk hd
     clear hd
     go_wp2
     go_roundw
     case rel => exact ⟨k + 1, _, by omega, by go_num, rfl, ⟨by rw [HC.out, if_neg (fun e => HD.out e.1), List.append_nil]; exact HO.out⟩, HB⟩
     case measure => simp [intOf]; omega
   ·obtain rfl : k = s.length := by omega
    rw [List.take_length] at HO
    go_wp2
    go_ret
    exact RetR.mk (by simpa [keyL] using HO.out) HB.out
 ·have HB := Aside0.mk (Below.refl w.heap.size w)
  go_enter Try.func180, Try.ntmps180
  have HN := Aside0.mk (R_none (d := kIt) (e := 118) (base := w.heap.size) (ok := okT) (blk_new w (.cells #[] 118)) (Nat.le_refl _) trivial)
  replace HB := Aside0.mk (below_alloc HB.out (.cells #[] 118))
  go_wp2
  go_loopw [7, 8, 9] (fun o n i wr => ∃ (k : Nat) (n' : Int), k ≤ s.length ∧ i = .int .i64 k ∧ n = .int .i64 n' ∧ Aside0 (kIt.R 118 wr w.heap.size okT o ((keyO (s.take k) key).take 1)) ∧ Aside0 (Below w.heap.size w wr)) (fun _ _ i _ => s.length - (intOf i).toNat)
  case atStart => exact ⟨0, 0, Nat.zero_le _, rfl, rfl, by simpa [keyO, onceL] using HN, HB⟩
  case round =>
   clear HB HN
   obtain ⟨k, n', hk, rfl, rfl, HO, HB⟩ := hrel
   by_cases hlt : k < s.length
   ·obtain ⟨ad, x, e, HX, h0, h1, h2⟩ := rdIt HR.out HB.out hlt
    cases e
    have HC := Aside0.mk (keyO_snoc HX.out key)
    have hpl : ((keyO (s.take k) key).take 1).length ≤ k := by have h5 := keyO_len (s.take k) key; have h6 : (s.take k).length ≤ k := (by rw [List.length_take]; omega); rw [List.length_take]; omega
    have hws := HB.out.size
    by_cases hd : x.f0 = key
    ·have hdb : (x.f0 == key) = true := by simpa using hd
     have HD := Aside0.mk hd
     clear hd
     by_cases hp : 0 < x.f2
     ·obtain ⟨acc, hacc⟩ : ∃ acc, acc = (keyO (s.take k) key).take 1 := ⟨_, rfl⟩
      rw [← hacc] at HO hpl
      have HA := Aside0.mk hacc
      clear hacc
      obtain ⟨A5, c5, e5, hc5, hC5⟩ := Sl.of_R HO.out
      cases e5
      clear hc5 hC5
      by_cases hz : acc.length = 0
      ·have HZ : Aside0 (keyO (s.take k) key = []) := ⟨List.eq_nil_of_length_eq_zero (by rw [HA.out, List.length_take] at hz; omega)⟩
       have hzb : ((acc.length : Int) == 0) = true := by rw [hz]; rfl
       obtain rfl : acc = [] := List.eq_nil_of_length_eq_zero hz
       clear hz
       go_wp2_with (at_builtin; refine appIt (w0 := w) (base := w.heap.size) (xs := ([] : List It)) (ok := okT) rfl rfl rfl HO.out (fun _ _ => trivial) HB.out (by have := HB.out.size; omega) (by omega) ?_; intro v1 w1 hr1 hb1 hg1 ha1; have HO2 := Aside0.mk hr1; have HG_ := Aside0.mk hg1; replace HB := Aside0.mk hb1; clear hr1 hb1 hg1 ha1)
       go_roundw
       case rel => exact ⟨k + 1, _, by omega, by go_num, rfl, ⟨by rw [HC.out, if_pos ⟨HD.out, hp⟩]; have h4 := HO2.out; rw [← HD.out] at h4; rw [← HD.out] at HZ; rw [← HD.out, HZ.out]; exact h4⟩, HB⟩
       case measure => simp [intOf]; omega
      ·have hzb : ((acc.length : Int) == 0) = false := beq_eq_false_iff_ne.2 (by omega)
       have HZ := Aside0.mk hz
       clear hz
       go_wp2
       go_roundw
       case rel => exact ⟨k + 1, _, by omega, by go_num, rfl, ⟨by rw [HC.out, if_pos ⟨HD.out, hp⟩, List.take_append_of_le_length (by have := HZ.out; rw [HA.out, List.length_take] at this; omega), ← HA.out]; exact HO.out⟩, HB⟩
       case measure => simp [intOf]; omega
     ·go_wp2
      go_roundw
      case rel => exact ⟨k + 1, _, by omega, by go_num, rfl, ⟨by rw [HC.out, if_neg (fun e => hp e.2), List.append_nil]; exact HO.out⟩, HB⟩
      case measure => simp [intOf]; omega
    ·have hdb : (x.f0 == key) = false := by simpa using hd
     have HD := Aside0.mk hd
     clear hd
     go_wp2
     go_roundw
     case rel => exact ⟨k + 1, _, by omega, by go_num, rfl, ⟨by rw [HC.out, if_neg (fun e => HD.out e.1), List.append_nil]; exact HO.out⟩, HB⟩
     case measure => simp [intOf]; omega
   ·obtain rfl : k = s.length := by omega
    rw [List.take_length] at HO
    go_wp2
    go_ret
    exact RetR.mk (by simpa [keyL] using HO.out) HB.out
def keysL (s : List It) (kind : Int) (n : Nat) : List It := (List.range n).flatMap fun i : Nat => keyL s i kind
theorem keysL_succ (s : List It) (kind : Int) (n : Nat) : keysL s kind (n + 1) = keysL s kind n ++ keyL s n kind := by unfold keysL; rw [List.range_succ, List.flatMap_append]; simp
def sumK (s : List It) (kind : Int) : List It := if setOk s then keysL s kind 4 else []
theorem keyL_len (s : List It) (key kind : Int) : (keyL s key kind).length ≤ s.length + 1 := by
 have := keyO_len s key
 unfold keyL
 split
 ·omega
 ·split
  ·rw [List.length_take]; omega
  ·split
   ·split <;> simp
   ·simp
theorem keysL_len (s : List It) (kind : Int) : ∀ n, (keysL s kind n).length ≤ n * (s.length + 1)
 | 0 => by simp [keysL]
 | n + 1 => by
  have h1 := keysL_len s kind n
  have h2 := keyL_len s n kind
  rw [keysL_succ, List.length_append, Nat.succ_mul]; omega
theorem massI_ok {s : List It} (h : setOk s = true) : massI s < 4611686018427387904 := by
 have h1 := massI_le (l := s) (c := 1099511627776) fun x hx => ((setOk_canon h).2.1 x hx).2
 have h2 := setOk_len h
 have h3 : (1099511627776 : Int) * (s.length : Int) ≤ 1099511627776 * 400 := Int.mul_le_mul_of_nonneg_left (by omega) (by omega)
 omega
set_option maxRecDepth 100000 in
set_option maxHeartbeats 2000000 in
theorem spec_l3Sum (v : Value) (s : List It) (kind : Int) (w : World) (h : Sl kIt w v s) (hk1 : 1 ≤ kind) (hk3 : kind ≤ 3) : Calls Try.prog 153 #[v, .int .i64 kind] w (RetR kIt 118 w (sumK s kind)) := by
 have HS := Aside0.mk h
 have HB := Aside0.mk (Below.refl w.heap.size w)
 go_enter Try.func153, Try.ntmps153
 have HN := Aside0.mk (R_none (d := kIt) (e := 118) (base := w.heap.size) (ok := okT) (blk_new w (.cells #[] 118)) (Nat.le_refl _) trivial)
 replace HB := Aside0.mk (below_alloc HB.out (.cells #[] 118))
 cases hs : setOk s
 ·go_wp2
  go_loopw [5, 6] (fun o i wr => i = .int .i64 0 ∧ Aside0 (kIt.R 118 wr w.heap.size okT o []) ∧ Aside0 (Below w.heap.size w wr)) (fun _ i _ => 0)
  case atStart => exact ⟨rfl, HN, HB⟩
  case round =>
   clear HN HB
   obtain ⟨rfl, HO, HB⟩ := hrel
   go_wp2_with (go_at_call 103; ((with_reducible refine (spec_SetOk _ s _ (HS.out.below HB.out)).mono ?_); rintro e w' ⟨rfl, hb⟩; replace HB := Aside0.mk (bthen HB.out hb); replace HO := Aside0.mk (Kd.R_below HO.out hb); clear hb))
   go_ret
   exact RetR.mk (by rw [sumK, hs]; exact HO.out) HB.out
 ·have hl1 := setOk_len hs
  have hms := massI_ok hs
  go_wp2
  go_loopw [5, 6] (fun o i wr => ∃ k : Nat, k ≤ 4 ∧ i = .int .i64 k ∧ Aside0 (kIt.R 118 wr w.heap.size okT o (keysL s kind k)) ∧ Aside0 (Below w.heap.size w wr)) (fun _ i _ => 4 - (intOf i).toNat)
  case atStart => exact ⟨0, by omega, rfl, by simpa [keysL] using HN, HB⟩
  case round =>
   clear HN HB
   obtain ⟨k, hk, rfl, HO, HB⟩ := hrel
   by_cases hlt : k < 4
   ·have hpl := keysL_len s kind k
    have hpl2 : k * (s.length + 1) ≤ 4 * 401 := Nat.mul_le_mul (by omega) (by omega)
    have hkl := keyL_len s k kind
    have hlt2 : (k : Int) < 4 := by omega
    go_wp2_with (first
     | (go_at_call 103; ((with_reducible refine (spec_SetOk _ s _ (HS.out.below HB.out)).mono ?_); rintro e w' ⟨rfl, hb⟩; replace HB := Aside0.mk (bthen HB.out hb); replace HO := Aside0.mk (Kd.R_below HO.out hb); clear hb))
     | (go_at_call 180; ((with_reducible refine (spec_l3Key _ s k kind _ (HS.out.below HB.out) hms (by omega) hk1 hk3).mono ?_); rintro e w' ⟨u, rfl, hr, hb⟩; have HK := Aside0.mk (Sl.of_R hr); replace HO := Aside0.mk (Kd.R_below HO.out hb); replace HB := Aside0.mk (bthen HB.out hb); clear hr hb))
     | (at_builtin; refine appsIt (w0 := w) (base := w.heap.size) (xs := keysL s kind k) (ys := keyL s k kind) (ok := okT) rfl rfl (HK.out) HO.out (fun _ _ => trivial) HB.out HB.out.size (by first | omega | (simp; omega)) ?_; intro v1 w' hr1 hb1 hg1 ha1; have HO2 := Aside0.mk hr1; replace HB := Aside0.mk hb1; clear hr1 hb1 hg1 ha1))
    go_roundw
    case rel => exact ⟨k + 1, by omega, by go_num, ⟨by rw [keysL_succ]; exact HO2.out⟩, HB⟩
    case measure => simp [intOf]; omega
   ·obtain rfl : k = 4 := by omega
    go_wp2
    go_ret
    exact RetR.mk (by rw [sumK, hs]; exact HO.out) HB.out
theorem split_key {a : Int} : ∀ {l : List It}, l.Pairwise ltI → (∀ x ∈ l, a ≤ x.f0) → l = l.filter (fun x => decide (x.f0 = a)) ++ l.filter (fun x => !decide (x.f0 = a))
 | [], _, _ => rfl
 | x :: l, hp, hk => by
  obtain ⟨h1, h2⟩ := List.pairwise_cons.1 hp
  by_cases he : x.f0 = a
  ·have ih := split_key h2 (fun y hy => hk y (List.mem_cons_of_mem _ hy))
   rw [List.filter_cons_of_pos (by simpa using he), List.filter_cons_of_neg (by simpa using he), List.cons_append, ← ih]
  ·have hx := hk x List.mem_cons_self
   have hn : (x :: l).filter (fun x => decide (x.f0 = a)) = [] := List.filter_eq_nil_iff.2 fun y hy => by
    rcases List.mem_cons.1 hy with rfl | hy
    ·simpa using he
    ·have h3 := h1 y hy
     unfold ltI at h3
     have : y.f0 ≠ a := by omega
     simpa using this
   have hy : (x :: l).filter (fun x => !decide (x.f0 = a)) = x :: l := List.filter_eq_self.2 fun y hy => by
    rcases List.mem_cons.1 hy with rfl | hy
    ·simpa using he
    ·have h3 := h1 y hy
     unfold ltI at h3
     have : y.f0 ≠ a := by omega
     simpa using this
   rw [hn, hy, List.nil_append]
theorem filter_key (l : List It) (a b : Int) (h : a ≠ b) : (l.filter fun x => !decide (x.f0 = a)).filter (fun x => decide (x.f0 = b)) = l.filter fun x => decide (x.f0 = b) := by
 rw [List.filter_filter]
 refine List.filter_congr fun x _ => ?_
 by_cases hb : x.f0 = b
 ·have : x.f0 ≠ a := by omega
  simp [hb]; omega
 ·simp [hb]
theorem keys_split {s : List It} (hs : setOk s = true) : s = s.filter (fun x => decide (x.f0 = 0)) ++ s.filter (fun x => decide (x.f0 = 1)) ++ s.filter (fun x => decide (x.f0 = 2)) ++ s.filter (fun x => decide (x.f0 = 3)) := by
 have hc := (setOk_canon hs).1.1
 have ho := sOk_of hs
 have e0 := split_key (a := 0) hc (fun x hx => (ho x hx).1)
 have c1 : (s.filter fun x => !decide (x.f0 = 0)).Pairwise ltI := hc.filter _
 have e1 := split_key (a := 1) c1 (fun x hx => by obtain ⟨h1, h2⟩ := List.mem_filter.1 hx; have := ho x h1; simp at h2; omega)
 have c2 := c1.filter (fun x => !decide (x.f0 = 1))
 have e2 := split_key (a := 2) c2 (fun x hx => by obtain ⟨h1, h2⟩ := List.mem_filter.1 hx; obtain ⟨h3, h4⟩ := List.mem_filter.1 h1; have := ho x h3; simp at h2 h4; omega)
 have e3 : ((s.filter fun x => !decide (x.f0 = 0)).filter fun x => !decide (x.f0 = 1)).filter (fun x => !decide (x.f0 = 2)) = s.filter fun x => decide (x.f0 = 3) := by
  rw [List.filter_filter, List.filter_filter]
  refine List.filter_congr fun x hx => ?_
  have := ho x hx
  by_cases h3 : x.f0 = 3
  ·simp [h3]
  ·have : x.f0 = 0 ∨ x.f0 = 1 ∨ x.f0 = 2 := by omega
   rcases this with h | h | h <;> simp [h]
 rw [filter_key _ 0 1 (by omega)] at e1
 rw [filter_key _ 1 2 (by omega), filter_key _ 0 2 (by omega), e3] at e2
 rw [e2] at e1
 rw [e1] at e0
 rw [List.append_assoc, List.append_assoc]; exact e0
theorem sumK_once (s : List It) : sumK s 2 = setOnce s := by
 unfold sumK setOnce
 cases hs : setOk s
 ·rfl
 ·have hk := keys_split hs
  simp only [if_true]
  conv => rhs; rw [hk]
  unfold keysL keyL keyO onceL
  simp [List.range_succ, List.filter_append]
end Go.Proofs.Ytkdendlgaaimbaa.X
namespace Go.Proofs.Ytkdendlgaaimbaa.X
open Go.RowKit Go.Proofs.YtkdendlgaaimbaaW.PrintWords
set_option linter.unusedVariables false
set_option linter.unusedSimpArgs false
end Go.Proofs.Ytkdendlgaaimbaa.X
