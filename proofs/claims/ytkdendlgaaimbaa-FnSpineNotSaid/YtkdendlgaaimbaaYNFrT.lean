/- Conditions: none. -/
import Derived.Test.YtkdendlgaaimbaaYNPlH
import Derived.Test.YtkdendlgaaimbaaYNLw
namespace Go.Proofs.Ytkdendlgaaimbaa.X
open Go.RowKit Go.Proofs.YtkdendlgaaimbaaW.PrintWords
set_option linter.unusedVariables false
set_option linter.unusedSimpArgs false
def tmsOk (l : List Tm) : Prop := ∀ t ∈ l, tOk t = true
theorem tmsOk.snoc {l : List Tm} {t : Tm} (h : tmsOk l) (ht : tOk t = true) : tmsOk (l ++ [t]) := fun s hs => (List.mem_append.1 hs).elim (h s) (fun e => by rw [List.mem_singleton.1 e]; exact ht)
attribute [local go_sem high] eqATm in
set_option maxRecDepth 100000 in
set_option maxHeartbeats 4000000 in
theorem spec_FrontOf (v : Value) (l : List Tm) (w : World) (h : Sl kTm w v l) : Calls Try.prog 138 #[v] w fun e w' => ∃ u xs, e = .returned u ∧ kTm.R 43 w' w.heap.size okT u xs ∧ xs.length ≤ 64 ∧ tmsOk xs ∧ Below w.heap.size w w' := by
 have HS := Aside0.mk h
 obtain ⟨A, c_, rfl, HC, hr⟩ := h
 have hm := Kd.C_max hr
 have HR := Aside0.mk hr
 clear hr
 have HN := Aside0.mk (R_none (d := kTm) (e := 43) (base := w.heap.size) (ok := okT) (blk_new w (.cells #[] 43)) (Nat.le_refl _) trivial)
 have TL : ∀ (s t : Tm) W, Calls Try.prog 137 #[.agg #[.int .i64 s.f0, .int .i64 s.f1], .agg #[.int .i64 t.f0, .int .i64 t.f1]] W (RetV W (.bool (tLess s t))) := fun s t W => spec_TimeLess s.f0 s.f1 t.f0 t.f1 W
 have HB := Aside0.mk (Below.refl w.heap.size w)
 go_enter Try.func138, Try.ntmps138
 replace HB := Aside0.mk (below_alloc HB.out (.cells #[] 43))
 cases hok : allOk l
 ·go_wp2_with (go_at_call 174; ((with_reducible refine (spec_l1Ok _ l _ (HS.out.below HB.out)).mono ?_); rintro e w' ⟨rfl, hb⟩; replace HB := Aside0.mk (bthen HB.out hb); replace HN := Aside0.mk (Kd.R_below HN.out hb); clear hb))
  go_ret
  exact ⟨_, [], rfl, HN.out, by simp, fun t ht => (by cases ht), HB.out⟩
 ·go_upto_block 0 with (go_at_call 174; ((with_reducible refine (spec_l1Ok _ l _ (HS.out.below HB.out)).mono ?_); rintro e w' ⟨rfl, hb⟩; replace HB := Aside0.mk (bthen HB.out hb); replace HN := Aside0.mk (Kd.R_below HN.out hb); clear hb))
  go_wp2
  go_loopw [3, 4] (fun o i wr => ∃ (a : Nat) (acc : List Tm), a ≤ 8 ∧ i = .int .i64 a ∧ acc.length ≤ 8 * a ∧ Aside0 (tmsOk acc) ∧ Aside0 (kTm.R 43 wr w.heap.size okT o acc) ∧ Aside0 (Below w.heap.size w wr)) (fun _ i _ => 8 - (intOf i).toNat)
  case atStart => exact ⟨0, [], by omega, rfl, by simp, ⟨fun t ht => by cases ht⟩, HN, HB⟩
  case round =>
   clear HB HN
   obtain ⟨a, acc, ha, rfl, hacc, HA, HO, HB⟩ := hrel
   by_cases hlt : a < 8
   ·have hlt' : (a : Int) ≤ 7 := by omega
    go_wp2
    go_loopw [3, 5] (fun o i wr => ∃ (k : Nat) (acc : List Tm), k ≤ 8 ∧ i = .int .i64 (7 - (k : Int)) ∧ acc.length ≤ 8 * a + k ∧ Aside0 (tmsOk acc) ∧ Aside0 (kTm.R 43 wr w.heap.size okT o acc) ∧ Aside0 (Below w.heap.size w wr)) (fun _ i _ => (intOf i + 1).toNat)
    case atStart => exact ⟨0, acc, by omega, rfl, by omega, HA, HO, HB⟩
    case round =>
     clear HB HO HA hacc
     obtain ⟨k, acc, hk, rfl, hacc, HA, HO, HB⟩ := hrel
     by_cases hlt2 : k < 8
     ·have hge : (0 : Int) ≤ 7 - (k : Int) := by omega
      have ew : wrap64 (7 - (k : Int) - 1) = 7 - ((k + 1 : Nat) : Int) := by unfold wrap64; omega
      have EW := Aside0.mk ew
      clear ew
      obtain ⟨b, hb0⟩ : ∃ b : Int, b = 7 - (k : Int) := ⟨_, rfl⟩
      rw [← hb0] at hge EW ⊢
      have hbk : b ≤ 7 := by omega
      have HBK := Aside0.mk hb0
      clear hb0
      go_upto_region 11 with fail
      refine name_world fun W1 hW => ?_
      have BX : W1.heap[wr.heap.size]? = some (.cells #[.int .i64 (a : Int), .int .i64 b] 43 (0, 0)) := by rw [hW]; exact blk_new wr _
      have hb1 : Below wr.heap.size wr W1 := by rw [hW]; repeat (first | exact Below.refl _ _ | apply below_alloc | refine below_set ?_ (by simp))
      clear hW
      generalize hX : wr.heap.size = X at BX ⊢
      replace HO := Aside0.mk (Kd.R_below (R_new (ok' := fun q => q ≠ X) HO.out (X := X) (by omega) (fun q h1 h2 => by omega)) hb1)
      replace HB := Aside0.mk (bthen HB.out hb1)
      have HX := Aside0.mk BX
      clear BX hX hb1
      go_wp2
      go_loopw [7, 8] (fun f i wr => ∃ (j : Nat) (bb : Bool), j ≤ l.length ∧ i = .int .i64 j ∧ f = .bool bb ∧ Aside0 (kTm.R 43 wr w.heap.size (fun q => q ≠ X) _ acc) ∧ Aside0 (wr.heap[X]? = some (.cells #[.int .i64 (a : Int), .int .i64 b] 43 (0, 0))) ∧ Aside0 (Below w.heap.size w wr)) (fun _ i _ => l.length - (intOf i).toNat)
      case atStart => exact ⟨0, _, Nat.zero_le _, rfl, rfl, HO, HX, HB⟩
      case round =>
       clear HB HO HX
       obtain ⟨j, bb, hj, rfl, rfl, HO, HX, HB⟩ := hrel
       by_cases hlt3 : j < l.length
       ·obtain ⟨ad, x, e, HXX, h0, h1⟩ := rdTm HR.out HB.out hlt3
        cases e
        have q0 := fun u => Ext.cell h0 u
        have q1 := fun u => Ext.cell h1 u
        have q2 := fun u => Ext.cell (show _ = some (.int .i64 (a : Int)) from blk_cell HX.out 0) u
        have q3 := fun u => Ext.cell (show _ = some (.int .i64 b) from blk_cell HX.out 1) u
        clear h0 h1
        cases hb0 : (x.f0 == (a : Int)) <;> cases hb1 : (x.f1 == b)
        all_goals
         go_wp2
         refine wp_region_ext (by kernel_rfl) (by kernel_rfl) ?_
         repeat (any_goals (first | go_big_quiet_step (fail) | quiet_step (fail) | (refine wpQuiet_step (fun K hK => ?_); go_simp; split <;> (refine hK _ ?_; clear hK K))))
         all_goals (refine wpQuiet_nil ?_; intro u)
         have HO2 := Aside0.mk (Kd.R_below HO.out u.bel)
         have HX2 := Aside0.mk (blk_below HX.out u.bel)
         have HB2 := Aside0.mk (bthen HB.out u.bel)
         clear q0 q1 q2 q3
         go_wp2
         go_roundw
         case rel => exact ⟨j + 1, _, by omega, by go_num, rfl, HO2, HX2, HB2⟩
         case measure => simp [intOf]; omega
       ·go_wp2
        go_loopw [7, 9] (fun f i wr => ∃ (j : Nat) (bb : Bool), j ≤ l.length ∧ i = .int .i64 j ∧ f = .bool bb ∧ Aside0 (kTm.R 43 wr w.heap.size (fun q => q ≠ X) _ acc) ∧ Aside0 (wr.heap[X]? = some (.cells #[.int .i64 (a : Int), .int .i64 b] 43 (0, 0))) ∧ Aside0 (Below w.heap.size w wr)) (fun _ i _ => l.length - (intOf i).toNat)
        case atStart => exact ⟨0, _, Nat.zero_le _, rfl, rfl, HO, HX, HB⟩
        case round =>
         clear HB HO HX
         obtain ⟨j, bb, hj, rfl, rfl, HO, HX, HB⟩ := hrel
         by_cases hlt4 : j < l.length
         ·obtain ⟨ad, x, e, HXX, h0, h1⟩ := rdTm HR.out HB.out hlt4
          cases e
          have q0 := fun u => Ext.cell h0 u
          have q1 := fun u => Ext.cell h1 u
          have q2 := fun u => Ext.cell (show _ = some (.int .i64 (a : Int)) from blk_cell HX.out 0) u
          have q3 := fun u => Ext.cell (show _ = some (.int .i64 b) from blk_cell HX.out 1) u
          have TX := fun W => TL x ⟨(a : Int), b⟩ W
          clear h0 h1
          cases htl : tLess x ⟨(a : Int), b⟩ <;> cases hb0 : (x.f0 == (a : Int)) <;> cases hb1 : (x.f1 == b)
          all_goals
           go_wp2
           refine wp_region_ext (by kernel_rfl) (by kernel_rfl) ?_
           repeat (any_goals (first | go_big_quiet_step ((go_at_call 137; exact Calls.extV (TX _))) | quiet_step ((go_at_call 137; exact Calls.extV (TX _))) | (refine wpQuiet_step (fun K hK => ?_); go_simp; split <;> (refine hK _ ?_; clear hK K))))
           all_goals (refine wpQuiet_nil ?_; intro u)
           have HO2 := Aside0.mk (Kd.R_below HO.out u.bel)
           have HX2 := Aside0.mk (blk_below HX.out u.bel)
           have HB2 := Aside0.mk (bthen HB.out u.bel)
           clear q0 q1 q2 q3
           go_wp2
           go_roundw
           case rel => exact ⟨j + 1, _, by omega, by go_num, rfl, HO2, HX2, HB2⟩
           case measure => simp [intOf]; omega
         ·have k0 := blk_cell HX.out 0
          have k1 := blk_cell HX.out 1
          have hal : acc.length < 3518437208000 := by omega
          cases bb
          ·go_wp2
           go_roundw
           case rel => exact ⟨k + 1, acc, by omega, by have := HBK.out; congr 1; omega, by omega, HA, ⟨Kd.R_mono HO.out (fun _ _ => trivial)⟩, HB⟩
           case measure => have := HBK.out; simp [intOf]; omega
          ·have hws := HB.out.size
           have hXlt := blk_lt HX.out
           go_wp2_with (at_builtin; refine appTm (w0 := w) (base := w.heap.size) (xs := acc) (ok := fun q => q ≠ X) rfl rfl rfl HO.out (fun q hq => by omega) HB.out (by have := HB.out.size; omega) (by omega) ?_; intro v1 w1 hr1 hb1 hg1 ha1; have HO2 := Aside0.mk hr1; have HG_ := Aside0.mk hg1; replace HB := Aside0.mk hb1; clear hr1 hb1 hg1 ha1)
           go_roundw
           case rel => exact ⟨k + 1, acc ++ [⟨(a : Int), b⟩], by omega, by have := HBK.out; congr 1; omega, by rw [List.length_append, List.length_singleton]; omega, ⟨HA.out.snoc (by simp only [tOk, Bool.and_eq_true, decide_eq_true_eq]; omega)⟩, ⟨Kd.R_mono HO2.out (fun _ _ => trivial)⟩, HB⟩
           case measure => have := HBK.out; simp [intOf]; omega
     ·obtain rfl : k = 8 := by omega
      have hge : ¬ ((0 : Int) ≤ 7 - ((8 : Nat) : Int)) := by omega
      go_wp2
      go_roundw
      case rel => exact ⟨a + 1, acc, by omega, by go_num, by omega, HA, HO, HB⟩
      case measure => simp [intOf]; omega
   ·obtain rfl : a = 8 := by omega
    go_wp2
    go_ret
    exact ⟨_, acc, rfl, HO.out, by omega, HA.out, HB.out⟩
def TmsP (w0 : World) (rb : Nat) (s : List Int) (p : Int) (W : World) (n : Nat) (d : Int) (e : Ending) (W' : World) : Prop := ∃ (v : Value) (l : List Tm), e = .returned v ∧ kTm.R 43 W' W.heap.size okT v l ∧ l.length ≤ n ∧ tmsOk l ∧ Adv w0 rb s p d W W'
set_option maxRecDepth 100000 in
set_option maxHeartbeats 4000000 in
theorem spec_l71Times {w0 W : World} {rb : Nat} {s : List Int} {p : Int} (hS : Aside0 (RS s)) (h : Rd w0 rb s p W) (hp : p ≤ 800000) (most : Nat) (hm : most ≤ 10) :
  Calls Try.prog 164 #[.pointer (some ⟨rb, 0, none⟩), .int .i64 most] W (TmsP w0 rb s p W most 31) := by
 have hbl := h.lt
 have hge := h.ge
 have hnn := h.nn
 have ew : wrap64 ((most : Int) + 1) = (most : Int) + 1 := by unfold wrap64; omega
 have HR := Aside0.mk (h.alloc (.cells #[] 43))
 have HV := Aside0.mk (alloc_grown W (.cells #[] 43) (some rb))
 have HO : Aside0 (kTm.R 43 (W.alloc (.cells #[] 43)) W.heap.size (fun q => q ≠ rb) (.slice (some ⟨W.heap.size, 0, none⟩) 0 0) []) := ⟨R_none (blk_new W _) (Nat.le_refl _) (by omega)⟩
 clear h
 go_enter Try.func164, Try.ntmps164
 go_wp2_with (go_at_call 69; refine (spec_pick hS.out HR.out (by omega) ((most : Int) + 1) (by omega) (by omega)).mono ?_; rintro e w' ⟨v, rfl, v0, v1, hr, hg⟩; replace HO := Aside0.mk (R_pick HO.out hg (fun q hq => hq)); replace HV := Aside0.mk (gthen HV.out hg); replace HR := Aside0.mk hr; clear hr hg; obtain ⟨n, rfl⟩ := Int.eq_ofNat_of_zero_le v0)
 go_loopg [5, 6] n (fun g o i wr => ∃ (m : Nat) (acc : List Tm) (p' : Int), i = .int .i64 m ∧ m ≤ g ∧ acc.length + m ≤ most ∧ p ≤ p' ∧ p' + 3 * m ≤ p + 3 * most + 1 ∧ Aside0 (tmsOk acc) ∧ Aside0 (kTm.R 43 wr W.heap.size (fun q => q ≠ rb) o acc) ∧ Aside0 (Rd w0 rb s p' wr) ∧ Aside0 (W.grownBy wr (some rb)))
 case atStart => exact ⟨n, [], p + 1, rfl, Nat.le_refl _, by simp; omega, by omega, by omega, ⟨fun r hr => by cases hr⟩, HO, HR, HV⟩
 case round =>
  clear HO HR HV
  obtain ⟨m, acc, p', rfl, hmg, hacc, hp0, hp1, HA, HO, HR, HV⟩ := hrel
  have hWs := HV.out.size
  cases m with
  | zero =>
   go_wp2
   go_ret
   exact ⟨_, acc, rfl, Kd.R_mono HO.out (fun _ _ => trivial), by omega, HA.out, p', by omega, by omega, HR.out, HV.out⟩
  | succ m =>
   have ew2 : wrap64 (((m + 1 : Nat) : Int) - 1) = (m : Int) := by unfold wrap64; omega
   have hm0 : (0 : Int) < ((m + 1 : Nat) : Int) := by omega
   go_wp2_with (first
    | (go_at_call 139; ((with_reducible refine (spec_l71Time hS HR.out (by omega)).mono ?_); rintro e wa ⟨x, y, rfl, hxy, p2, g0, g1, hr, hg⟩; have HXY := Aside0.mk hxy; replace HO := Aside0.mk (R_pick HO.out hg (fun q hq => hq)); replace HV := Aside0.mk (gthen HV.out hg); replace HR := Aside0.mk hr; have hWs2 := HV.out.size; clear hr hg hxy))
    | (at_builtin; refine appTm (w0 := wa) (base := W.heap.size) (xs := acc) (ok := fun q => q ≠ rb) rfl rfl rfl HO.out (fun q hq => by omega) (Below.refl _ _) (by omega) (by omega) ?_; intro v1 w1 hr1 hb1 hg1 ha1; have HO5 := Aside0.mk hr1; have HR5 := Aside0.mk (HR.out.belowB hb1 hbl); have HV5 := Aside0.mk (gthenB HV.out hb1); clear hr1 hb1 hg1 ha1))
   go_roundg m
   case measure => omega
   case rel => exact ⟨m, acc ++ [⟨x, y⟩], p2, by go_num, Nat.le_refl _, by rw [List.length_append, List.length_singleton]; omega, by omega, by omega, ⟨HA.out.snoc (by have := HXY.out; simp only [tOk, Bool.and_eq_true, decide_eq_true_eq]; omega)⟩, HO5, HR5, HV5⟩
set_option maxRecDepth 100000 in
set_option maxHeartbeats 2000000 in
theorem spec_l71Front {w0 W : World} {rb : Nat} {s : List Int} {p : Int} (hS : Aside0 (RS s)) (h : Rd w0 rb s p W) (hp : p ≤ 800000) :
  Calls Try.prog 126 #[.pointer (some ⟨rb, 0, none⟩)] W (TmsP w0 rb s p W 64 31) := by
 have hbl := h.lt
 have HR := Aside0.mk h
 have C1 := spec_l71Times hS h hp 4 (by omega)
 rw [show ((4 : Nat) : Int) = 4 from rfl] at C1
 clear h
 go_enter Try.func126, Try.ntmps126
 go_wp2_with (first
  | (go_at_call 164; ((with_reducible refine C1.mono ?_); rintro e wa ⟨v1, l1, rfl, hr1, hl1, ho1, p1, g0, g1, hrd, hg⟩; have HS1 := Aside0.mk (Sl.of_R hr1); have HR1 := Aside0.mk hrd; have HV1 := Aside0.mk hg; clear hr1 ho1 hrd hg))
  | (go_at_call 138; ((with_reducible refine (spec_FrontOf v1 l1 wa HS1.out).mono ?_); rintro e wb ⟨v2, l2, rfl, hr2, hl2, ho2, hb⟩; have HF := Aside0.mk (Kd.R_lower hr2 HV1.out.size); have HO2 := Aside0.mk ho2; have HR2 := Aside0.mk (HR1.out.below hb); have HV2 := Aside0.mk (grownBy_after HV1.out hb); clear hr2 ho2 hb)))
 go_ret
 exact ⟨_, l2, rfl, HF.out, hl2, HO2.out, p1, by omega, by omega, HR2.out, HV2.out⟩
end Go.Proofs.Ytkdendlgaaimbaa.X
