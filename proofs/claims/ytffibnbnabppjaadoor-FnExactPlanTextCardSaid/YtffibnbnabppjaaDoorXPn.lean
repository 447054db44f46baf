/- Plans in memory, and the exact laws' own helpers on plans: they size, copy and compare. Conditions: none. -/
import Derived.Test.YtffibnbnabppjaaDoorXPnK
import Derived.Test.YtffibnbnabppjaaDoorXBs
namespace Go.Proofs.YtffibnbnabppjaaDoor.X
open Go.RowKit Go.Proofs.YtffibnbnabppjaaDoorW.PrintWords
set_option linter.unusedVariables false
set_option linter.unusedSimpArgs false

/-- the size of a plan's parts: what is left of a bound -/
def szv (n : Nat) (left : Int) : Int := if (n : Int) ≤ left then left - n else -1
theorem szv_yes {n : Nat} {left : Int} (h : (n : Int) ≤ left) : szv n left = left - n := if_pos h
theorem szv_no {n : Nat} {left : Int} (h : left < (n : Int)) : szv n left = -1 := if_neg (by omega)
set_option maxRecDepth 100000 in
set_option maxHeartbeats 1000000 in
theorem laws_szPlan_of (x : Pn) (hx : ∀ (v : Value) (left : Int) (w : World), Sl kPn w v x.f2 → 0 ≤ left → left ≤ 1048576 → Calls Tryd.prog 9 #[v, .int .i64 left] w (RetV w (.int .i64 (szv (cntL x.f2) left)))) (v : Value) (left : Int) (w : World) (h : Sl kPn w v x.f2) (h0 : 0 ≤ left) (h1 : left ≤ 1048576) :
    Calls Tryd.prog 4 #[.agg #[.int .i64 x.f0, .int .i64 x.f1, v], .int .i64 left] w (RetV w (.int .i64 (szv (cntL x.f2) left))) := by
  have HS := Aside0.mk h
  obtain ⟨A, c, rfl, hc, hr⟩ := h
  clear hr
  have HX := Aside0.mk hx
  clear hx
  generalize cntL x.f2 = n at *
  have HB := Aside0.mk (Below.refl w.heap.size w)
  go_enter Tryd.func4, Tryd.ntmps4
  have hb1 := below_alloc (Below.refl w.heap.size w) (.cells #[.int .i64 x.f0, .int .i64 x.f1, .slice A x.f2.length c] 24)
  replace HB := Aside0.mk hb1
  replace HS := Aside0.mk (HS.out.below hb1)
  clear hb1
  by_cases hn : (n : Int) ≤ left
  · have e := szv_yes hn
    have E := Aside0.mk e
    clear e
    go_wp2_with (go_at_call 9; ((with_reducible refine (HX.out _ left _ HS.out h0 h1).mono ?_); rintro e w' ⟨rfl, hb⟩; rw [E.out]; replace HB := Aside0.mk (bthen HB.out hb); clear hb))
    go_ret
    exact RetV.mk (by rw [E.out]; rfl) HB.out
  · have E := Aside0.mk (szv_no (show left < (n : Int) by omega))
    go_wp2_with (go_at_call 9; ((with_reducible refine (HX.out _ left _ HS.out h0 h1).mono ?_); rintro e w' ⟨rfl, hb⟩; rw [E.out]; replace HB := Aside0.mk (bthen HB.out hb); clear hb))
    go_ret
    exact RetV.mk (by rw [E.out]; rfl) HB.out
set_option maxRecDepth 100000 in
set_option maxHeartbeats 2000000 in
theorem laws_szPlanS_n : ∀ (N : Nat) (l : List Pn), SizeOf.sizeOf l < N → ∀ (v : Value) (left : Int) (w : World), Sl kPn w v l → 0 ≤ left → left ≤ 1048576 → Calls Tryd.prog 9 #[v, .int .i64 left] w (RetV w (.int .i64 (szv (cntL l) left))) := by
  intro N
  induction N with
  | zero => intro l hl; omega
  | succ N ih =>
    intro l hl v left w h h0 h1
    have HI := Aside0.mk ih
    have HL := Aside0.mk hl
    have HC := Aside0.mk (cntL_eq l)
    clear ih hl
    obtain ⟨A, c, rfl, hc, hr⟩ := h
    have hm := Kd.C_max hr
    have HR := Aside0.mk hr
    clear hr
    have hle := sumP_le l
    generalize cntL l = n at *
    have HB := Aside0.mk (Below.refl w.heap.size w)
    go_enter Tryd.func9, Tryd.ntmps9
    by_cases hs : left < (l.length : Int)
    · have hneg : left - (l.length : Int) < 0 := by omega
      go_wp2
      go_ret
      exact RetV.mk (by rw [szv_no (by have := HC.out; omega)]; rfl) HB.out
    have hge : (0 : Int) ≤ left - (l.length : Int) := by omega
    go_wp2
    go_loopw [1, 5] (fun q i wr => ∃ k : Nat, k ≤ l.length ∧ q = .int .i64 (left - (l.length : Int) - (sumP (l.take k) : Int)) ∧ i = .int .i64 k ∧ 0 ≤ left - (l.length : Int) - (sumP (l.take k) : Int) ∧ Aside0 (Below w.heap.size w wr)) (fun _ i _ => l.length - (intOf i).toNat)
    case atStart => exact ⟨0, Nat.zero_le _, by simp [sumP], rfl, by simp [sumP]; omega, HB⟩
    case round =>
      clear HB
      obtain ⟨k, hk, rfl, rfl, hq, HB⟩ := hrel
      by_cases hlt : k < l.length
      · obtain ⟨ad, x, B, c2, e, HX, p0, p1, p2, HK⟩ := rdPn HR.out HB.out hlt
        cases e
        have hxl : SizeOf.sizeOf x.f2 < N := Nat.lt_of_lt_of_le (kids_lt (List.mem_of_getElem? HX.out)) (Nat.le_of_lt_succ HL.out)
        have HCx := Aside0.mk (laws_szPlan_of x (fun v left w => HI.out x.f2 hxl v left w))
        have HT := Aside0.mk (sumP_take HX.out)
        clear hxl
        generalize hqq : left - (l.length : Int) - (sumP (l.take k) : Int) = q at *
        have HQ := Aside0.mk hqq
        clear hqq
        have hq1 : q ≤ 1048576 := by have := HQ.out; omega
        by_cases hn : (cntL x.f2 : Int) ≤ q
        · have E := Aside0.mk (szv_yes hn)
          have hq2 : (0 : Int) ≤ q - (cntL x.f2 : Int) := by omega
          go_wp2_with (go_at_call 4; ((with_reducible refine (HCx.out _ q _ HK.out hq hq1).mono ?_); rintro e w' ⟨rfl, hb⟩; rw [E.out]; replace HB := Aside0.mk (bthen HB.out hb); clear hb))
          go_roundw
          case rel => exact ⟨k + 1, by omega, by rw [HT.out]; have := HQ.out; congr 1; omega, by go_num, by rw [HT.out]; have := HQ.out; omega, HB⟩
          case measure => simp [intOf]; omega
        · have E := Aside0.mk (szv_no (show q < (cntL x.f2 : Int) by omega))
          have HN := Aside0.mk hn
          clear hn
          go_wp2_with (go_at_call 4; ((with_reducible refine (HCx.out _ q _ HK.out hq hq1).mono ?_); rintro e w' ⟨rfl, hb⟩; rw [E.out]; replace HB := Aside0.mk (bthen HB.out hb); clear hb))
          go_ret
          exact RetV.mk (by rw [szv_no (by have h1 := HC.out; have h2 := HN.out; have h3 := HQ.out; have h4 := HT.out; have h5 := sumP_mono l (k + 1); omega)]; rfl) HB.out
      · have ek : k = l.length := by omega
        subst ek
        rw [List.take_length] at hq
        have HQ := Aside0.mk hq
        go_wp2
        go_ret
        exact RetV.mk (by rw [szv_yes (by have h1 := HC.out; have h2 := HQ.out; omega)]; rw [List.take_length]; have h1 := HC.out; exact congrArg (Value.int .i64) (by omega)) HB.out
theorem laws_szPlanS (l : List Pn) (v : Value) (left : Int) (w : World) (h : Sl kPn w v l) (h0 : 0 ≤ left) (h1 : left ≤ 1048576) : Calls Tryd.prog 9 #[v, .int .i64 left] w (RetV w (.int .i64 (szv (cntL l) left))) := laws_szPlanS_n (SizeOf.sizeOf l + 1) l (by omega) v left w h h0 h1
theorem laws_szPlan (x : Pn) (v : Value) (left : Int) (w : World) (h : Sl kPn w v x.f2) (h0 : 0 ≤ left) (h1 : left ≤ 1048576) :
    Calls Tryd.prog 4 #[.agg #[.int .i64 x.f0, .int .i64 x.f1, v], .int .i64 left] w (RetV w (.int .i64 (szv (cntL x.f2) left))) := laws_szPlan_of x (fun v left w h h0 h1 => laws_szPlanS x.f2 v left w h h0 h1) v left w h h0 h1
theorem infoPn : (Tryd.prog.info? 29).map (fun i => (i.zero, i.size, i.bytes)) = some (some (.agg #[.int .i64 0, .int .i64 0, .slice none 0 0]), 3, 40) := by kernel_rfl
theorem pnM {w : World} {base : Nat} {ok : Nat → Prop} {x : Pn} {v : Value} (h : kPn.R 29 w base ok v x.f2) : kPn.M w base ok x [.int .i64 x.f0, .int .i64 x.f1, v]  := by
  obtain ⟨n2, q2⟩ := Kd.fix_R_back PPlP.mono29 h
  exact ⟨n2 + 1, ⟨[.int .i64 x.f0], [.int .i64 x.f1, v], rfl, rfl, ⟨[.int .i64 x.f1], [v], rfl, rfl, ⟨v, rfl, q2⟩⟩⟩⟩
theorem pn0M {W : World} {base : Nat} : kPn.M W base (fun _ => False) (⟨0, 0, []⟩ : Pn) [.int .i64 0, .int .i64 0, .slice none 0 0] := pnM (x := ⟨0, 0, []⟩) (Kd.R_nil _ _ _ _ _)
/-- a copy of a plan in memory of its own -/
def PnR (w : World) (x : Pn) (e : Ending) (w' : World) : Prop := ∃ v, e = .returned (.agg #[.int .i64 x.f0, .int .i64 x.f1, v]) ∧ kPn.R 29 w' w.heap.size okT v x.f2 ∧ Below w.heap.size w w'
set_option maxRecDepth 100000 in
set_option maxHeartbeats 1000000 in
theorem laws_toPlan_of (x : Pn) (hx : ∀ (v : Value) (w : World), Sl kPn w v x.f2 → Calls Tryd.prog 12 #[v] w (RetR kPn 29 w x.f2)) (v : Value) (w : World) (h : Sl kPn w v x.f2) :
    Calls Tryd.prog 6 #[.agg #[.int .i64 x.f0, .int .i64 x.f1, v]] w (PnR w x) := by
  have HS := Aside0.mk h
  obtain ⟨A, c, rfl, hc, hr⟩ := h
  clear hr
  have HX := Aside0.mk hx
  clear hx
  have HB := Aside0.mk (Below.refl w.heap.size w)
  go_enter Tryd.func6, Tryd.ntmps6
  go_upto_region 4 with fail
  refine name_world fun W0 hW0 => ?_
  have hb0 : Below w.heap.size w W0 := by rw [hW0]; repeat (with_reducible first | exact Below.refl _ _ | refine below_set ?_ (by omega) | apply below_alloc)
  have K0 : W0.heap[w.heap.size]? = some (.cells #[.int .i64 x.f0, .int .i64 x.f1, .slice A x.f2.length c] 24 (0, 0)) := by rw [hW0]; repeat (first | exact blk_new _ _ | refine blk_alloc ?_ _ | refine blk_far ?_ (by simp) _)
  have K1 : W0.heap[w.heap.size + 1]? = some (.cells #[.int .i64 0, .int .i64 0, .slice none 0 0] 29 (0, 0)) := by rw [hW0]; repeat (first | exact blk_two _ _ _ | refine blk_alloc ?_ _ | refine blk_far ?_ (by simp) _)
  have K2 : W0.heap[w.heap.size + 2]? = some (.cells #[.int .i64 x.f0, .int .i64 x.f1, .slice none 0 0] 29 (0, 0)) := by
    rw [hW0]
    have h1 := blk_new ((w.alloc (.cells #[.int .i64 x.f0, .int .i64 x.f1, .slice A x.f2.length c] 24)).alloc (.cells #[.int .i64 0, .int .i64 0, .slice none 0 0] 29)) (.cells #[.int .i64 x.f0, .int .i64 x.f1, .slice none 0 0] 29)
    simpa using h1
  clear hW0
  obtain ⟨a0, ha0⟩ : ∃ a0, a0 = w.heap.size := ⟨_, rfl⟩
  obtain ⟨a1, ha1⟩ : ∃ a1, a1 = w.heap.size + 1 := ⟨_, rfl⟩
  obtain ⟨a2, ha2⟩ : ∃ a2, a2 = a1 + 1 := ⟨_, rfl⟩
  rw [← ha0] at K0
  rw [show w.heap.size + 2 = a2 by omega] at K2
  rw [← ha1] at K1
  have hle1 : w.heap.size ≤ a1 := by omega
  have hle2 : w.heap.size ≤ a2 := by omega
  have hne : a1 ≠ a2 := by omega
  try rw [← ha1]
  try rw [← ha2]
  have H1 := Aside0.mk K1
  have H2 := Aside0.mk K2
  have k2 : W0.cell? ⟨a0, 2, none⟩ = some (.slice A x.f2.length c) := blk_cell K0 2
  rw [ha0] at k2
  clear ha0 ha1 ha2 K0 K1 K2
  replace HB := Aside0.mk hb0
  replace HS := Aside0.mk (HS.out.below hb0)
  clear hb0
  go_wp2_with (go_at_call 12; go_loud ((with_reducible refine (HX.out _ _ HS.out).mono ?_); rintro e w' ⟨u, rfl, hu, hb⟩; have HU := Aside0.mk (Kd.R_lower (Kd.R_mono (Kd.R_bound hu) (ok' := fun q => a2 < q ∧ a1 < q) (fun q hq => by have h1 := blk_lt H1.out; have h2 := blk_lt H2.out; have := hq.2.1; omega)) HB.out.size); obtain ⟨A2, c2, rfl, _, _⟩ := Kd.R_reads hu; replace H1 := Aside0.mk (blk_below H1.out hb); replace H2 := Aside0.mk (blk_below H2.out hb); replace HB := Aside0.mk (bthen HB.out hb); have z0 := blk_cell H2.out 0; have z1 := blk_cell H2.out 1; have z2 := blk_cell H2.out 2; have zf0 := blk_frozen H2.out 0; have zf1 := blk_frozen H2.out 1; have zf2 := blk_frozen H2.out 2; have y0 := blk_cell H1.out 0; have y1 := blk_cell H1.out 1; have y2 := blk_cell H1.out 2; have yf0 := blk_frozen H1.out 0; have yf1 := blk_frozen H1.out 1; have yf2 := blk_frozen H1.out 2; clear hu hb))
  refine ret_cell (p := 2) (g := a1) (cs := #[.int .i64 x.f0, .int .i64 x.f1, .slice A2 x.f2.length c2]) rfl rfl rfl ?_ Tryd.underlying29 rfl (by kernel_rfl) ?_
  · refine blk3 (z0 := .int .i64 0) (z1 := .int .i64 0) (z2 := .slice none 0 0) ?_ _ _ _
    exact blk_far H1.out hne _
  · refine ⟨_, rfl, ?_, by repeat (with_reducible first | exact HB.out | refine below_set ?_ (by omega))⟩
    refine Kd.R_mono (ok := fun q => a2 < q ∧ a1 < q) ?_ (fun _ _ => trivial)
    repeat (first | exact HU.out | refine Kd.R_far ?_ (fun q hq => by simp only; omega) _)
set_option maxRecDepth 100000 in
set_option maxHeartbeats 2000000 in
theorem laws_toPlanS_n : ∀ (N : Nat) (l : List Pn), SizeOf.sizeOf l < N → ∀ (v : Value) (w : World), Sl kPn w v l → cntL l ≤ 1048576 → Calls Tryd.prog 12 #[v] w (RetR kPn 29 w l) := by
  intro N
  induction N with
  | zero => intro l hl; omega
  | succ N ih =>
    intro l hl v w h hcnt
    have HI := Aside0.mk ih
    have HL := Aside0.mk hl
    have HC := Aside0.mk hcnt
    have hln : l.length ≤ 1048576 := by have := cntL_eq l; omega
    clear ih hl hcnt
    obtain ⟨A, c, rfl, hc, hr⟩ := h
    have hm := Kd.C_max hr
    have HR := Aside0.mk hr
    clear hr
    have HB := Aside0.mk (Below.refl w.heap.size w)
    go_enter Tryd.func12, Tryd.ntmps12
    go_wp2_with (refine Kd.R_make kPn w.heap.size 29 (w0 := w) (N := 7) rfl rfl 27 _ _ rfl (l.length : Int) rfl rfl Tryd.underlying27 (.agg #[.int .i64 0, .int .i64 0, .slice none 0 0]) 40 infoPn rfl (by decide) (by omega) (⟨0, 0, []⟩ : Pn) (ok := okT) (okp := fun _ => False) pn0M (fun _ hk => hk.elim) trivial (by omega) (by simp; omega) HB.out (Nat.le_refl _) ?_; intro v1 w1 ho hb hg_ hn_; have HO := Aside0.mk ho; replace HB := Aside0.mk hb; clear ho hb hg_ hn_)
    go_loopw [4] (fun i wr => ∃ k : Nat, k ≤ l.length ∧ i = .int .i64 k ∧ Aside0 (kPn.R 29 wr w.heap.size okT v1 (l.take k ++ List.replicate (l.length - k) ⟨0, 0, []⟩)) ∧ Aside0 (Below w.heap.size w wr)) (fun i _ => l.length - (intOf i).toNat)
    case atStart => exact ⟨0, Nat.zero_le _, rfl, by simpa using HO, HB⟩
    case round =>
      clear HB HO
      obtain ⟨k, hk, rfl, HO1, HB⟩ := hrel
      by_cases hlt : k < l.length
      · obtain ⟨ad, x, B, c2, e, HX, p0, p1, p2, HK⟩ := rdPn HR.out HB.out hlt
        cases e
        have hmx := List.mem_of_getElem? HX.out
        have hxl : SizeOf.sizeOf x.f2 < N := Nat.lt_of_lt_of_le (kids_lt hmx) (Nat.le_of_lt_succ HL.out)
        have hxc : cntL x.f2 ≤ 1048576 := by have h1 := cnt_mem hmx; have h2 := HC.out; omega
        have HCx := Aside0.mk (laws_toPlan_of x (fun v w h => HI.out x.f2 hxl v w h hxc))
        clear hxl hmx hxc
        obtain ⟨g, cap, rfl, hg1, hg2⟩ := formR HO1.out (n := l.length) (by simp; omega) (by omega)
        go_wp2_with (first
          | (go_at_call 6; go_loud ((with_reducible refine (HCx.out _ _ HK.out).mono ?_); rintro e w' ⟨u, rfl, hu, hb⟩; have HO2 := Aside0.mk (Kd.R_below HO1.out hb); have HU := Aside0.mk (pnM (Kd.R_lower (Kd.R_mono (Kd.R_bound hu) (ok' := fun q => wr.heap.size ≤ q) (fun q hq => hq.2.1)) HB.out.size)); replace HB := Aside0.mk (bthen HB.out hb); clear hu hb))
          | (refine storeEl kPn (w0 := w) (base := w.heap.size) rfl rfl rfl k x [.int .i64 x.f0, .int .i64 x.f1, u] rfl rfl rfl (by kernel_rfl) HO2.out hlt HU.out (okp := fun q => wr.heap.size ≤ q) (fun q hq => ⟨trivial, by omega⟩) HB.out ?_; intro w2 ho hb2 hg_; have HO3 := Aside0.mk ho; replace HB := Aside0.mk hb2; clear ho hb2 hg_))
        go_roundw
        case rel => exact ⟨k + 1, by omega, by go_num, ⟨by have := HO3.out; rw [set_next HX.out] at this; exact this⟩, HB⟩
        case measure => simp [intOf]; omega
      · go_wp2
        go_ret
        exact RetR.mk (by have := HO1.out; rw [List.take_of_length_le (by omega), show l.length - k = 0 by omega] at this; simpa using this) HB.out
theorem laws_toPlanS (l : List Pn) (v : Value) (w : World) (h : Sl kPn w v l) (hc : cntL l ≤ 1048576) : Calls Tryd.prog 12 #[v] w (RetR kPn 29 w l) := laws_toPlanS_n (SizeOf.sizeOf l + 1) l (by omega) v w h hc
theorem laws_toPlan (x : Pn) (v : Value) (w : World) (h : Sl kPn w v x.f2) (hc : cntL x.f2 ≤ 1048576) : Calls Tryd.prog 6 #[.agg #[.int .i64 x.f0, .int .i64 x.f1, v]] w (PnR w x) := laws_toPlan_of x (fun v w h => laws_toPlanS x.f2 v w h hc) v w h
set_option maxRecDepth 100000 in
set_option maxHeartbeats 1000000 in
theorem laws_eqPlan_of (x : Pn) (hx : ∀ (v v2 : Value) (w : World), Sl kPn w v x.f2 → Sl kPn w v2 x.f2 → Calls Tryd.prog 15 #[v, v2] w (RetV w (.bool true))) (v v2 : Value) (w : World) (h : Sl kPn w v x.f2) (h2 : Sl kPn w v2 x.f2) :
    Calls Tryd.prog 8 #[.agg #[.int .i64 x.f0, .int .i64 x.f1, v], .agg #[.int .i64 x.f0, .int .i64 x.f1, v2]] w (RetV w (.bool true)) := by
  have HS := Aside0.mk h
  have HS2 := Aside0.mk h2
  have HX := Aside0.mk hx
  clear hx h h2
  have HB := Aside0.mk (Below.refl w.heap.size w)
  go_enter Tryd.func8, Tryd.ntmps8
  have hb1 := below_alloc (below_alloc (Below.refl w.heap.size w) (.cells #[.int .i64 x.f0, .int .i64 x.f1, v] 29)) (.cells #[.int .i64 x.f0, .int .i64 x.f1, v2] 29)
  replace HB := Aside0.mk hb1
  replace HS := Aside0.mk (HS.out.below hb1)
  replace HS2 := Aside0.mk (HS2.out.below hb1)
  clear hb1
  go_wp2_with (go_at_call 15; ((with_reducible refine (HX.out _ _ _ HS.out HS2.out).mono ?_); rintro e w' ⟨rfl, hb⟩; replace HB := Aside0.mk (bthen HB.out hb); clear hb))
  go_ret
  exact RetV.mk rfl HB.out
set_option maxRecDepth 100000 in
set_option maxHeartbeats 2000000 in
theorem laws_eqPlanS_n : ∀ (N : Nat) (l : List Pn), SizeOf.sizeOf l < N → ∀ (v v2 : Value) (w : World), Sl kPn w v l → Sl kPn w v2 l → Calls Tryd.prog 15 #[v, v2] w (RetV w (.bool true)) := by
  intro N
  induction N with
  | zero => intro l hl; omega
  | succ N ih =>
    intro l hl v v2 w h h2
    have HI := Aside0.mk ih
    have HL := Aside0.mk hl
    clear ih hl
    obtain ⟨A, c, rfl, hc, hr⟩ := h
    have hm := Kd.C_max hr
    have HR := Aside0.mk hr
    obtain ⟨A2, c2, rfl, hc2, hr2⟩ := h2
    have HR2 := Aside0.mk hr2
    clear hr hr2
    have HB := Aside0.mk (Below.refl w.heap.size w)
    go_enter Tryd.func15, Tryd.ntmps15
    go_wp2
    go_loopw [5] (fun i wr => ∃ k : Nat, k ≤ l.length ∧ i = .int .i64 k ∧ Aside0 (Below w.heap.size w wr)) (fun i _ => l.length - (intOf i).toNat)
    case atStart => exact ⟨0, Nat.zero_le _, rfl, HB⟩
    case round =>
      clear HB
      obtain ⟨k, hk, rfl, HB⟩ := hrel
      by_cases hlt : k < l.length
      · obtain ⟨ad, x, B, d, e, HX, h0, h1, h2, HK⟩ := rdPn HR.out HB.out hlt
        cases e
        obtain ⟨ad', y, B', d', e, HY, i0, i1, i2, HK2⟩ := rdPn HR2.out HB.out hlt
        cases e
        have ey : y = x := Option.some.inj (HY.out.symm.trans HX.out)
        subst ey
        have hmx := List.mem_of_getElem? HX.out
        have hxl : SizeOf.sizeOf y.f2 < N := Nat.lt_of_lt_of_le (kids_lt hmx) (Nat.le_of_lt_succ HL.out)
        have HCx := Aside0.mk (fun u : Ext wr => laws_eqPlan_of y (fun v v2 w h h2 => HI.out y.f2 hxl v v2 w h h2) _ _ u.w' (HK.out.below u.bel) (HK2.out.below u.bel))
        clear hxl hmx
        go_wp2
        have q0 := fun u : Ext wr => Ext.cell h0 u
        have q1 := fun u : Ext wr => Ext.cell h1 u
        have q2 := fun u : Ext wr => Ext.cell h2 u
        have r0 := fun u : Ext wr => Ext.cell i0 u
        have r1 := fun u : Ext wr => Ext.cell i1 u
        have r2 := fun u : Ext wr => Ext.cell i2 u
        refine wp_region_ext (by kernel_rfl) (by kernel_rfl) ?_
        repeat (any_goals (first | go_big_quiet_step ((go_at_call 8; exact Calls.extV (HCx.out _))) | quiet_step ((go_at_call 8; exact Calls.extV (HCx.out _))) | (refine wpQuiet_step (fun K hK => ?_); go_simp; split <;> (refine hK _ ?_; clear hK K))))
        all_goals (refine wpQuiet_nil ?_; intro u)
        have HB2 := Aside0.mk (bthen HB.out u.bel)
        clear q0 q1 q2 r0 r1 r2
        go_wp2
        go_roundw
        case rel => exact ⟨k + 1, by omega, by go_num, HB2⟩
        case measure => simp [intOf]; omega
      · go_wp2
        go_ret
        exact RetV.mk rfl HB.out
theorem laws_eqPlanS (l : List Pn) (v v2 : Value) (w : World) (h : Sl kPn w v l) (h2 : Sl kPn w v2 l) : Calls Tryd.prog 15 #[v, v2] w (RetV w (.bool true)) := laws_eqPlanS_n (SizeOf.sizeOf l + 1) l (by omega) v v2 w h h2
theorem laws_eqPlan (x : Pn) (v v2 : Value) (w : World) (h : Sl kPn w v x.f2) (h2 : Sl kPn w v2 x.f2) : Calls Tryd.prog 8 #[.agg #[.int .i64 x.f0, .int .i64 x.f1, v], .agg #[.int .i64 x.f0, .int .i64 x.f1, v2]] w (RetV w (.bool true)) := laws_eqPlan_of x (fun v v2 w h h2 => laws_eqPlanS x.f2 v v2 w h h2) v v2 w h h2
end Go.Proofs.YtffibnbnabppjaaDoor.X
