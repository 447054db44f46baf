/- Conditions: none. -/
import Derived.Test.YtkdendlgaaimbaaYCSrtB
import Derived.Test.YtkdendlgaaimbaaYCSq
import Derived.Shelf.SlSortFuncK.BreakPatternsK
import Derived.Sort.Walk13
import Derived.Sort.AssemblyPlain
import Derived.Test.YtkdendlgaaimbaaYCBs
import Derived.Test.YtkdendlgaaimbaaYCPl
namespace Go.Proofs.Ytkdendlgaaimbaa.X
open Go.Shelf Go.RowKit Go.Lib Go.Sort Go.Proofs.YtkdendlgaaimbaaW.PrintWords
set_option linter.unusedVariables false
set_option linter.unusedSimpArgs false
variable {P : Program} {ρ : Ren} {α : Type} [Inhabited α]
theorem St.sortWorld {E : SE P α} {W W' : World} {d d' : Array α} (h : St E W d) (hs : d'.size = d.size) (hw : ∃ n os, W' = sortWorldK E.enc E.k W E.blk 0 n d' os) : St E W' d' ∧ W.grownBy W' (some E.blk) := by
 obtain ⟨n, os, rfl⟩ := hw
 have h1 : St E (Sort.ahead W n) d := ⟨h.sz, ⟨h.gr.os, h.gr.tape, h.gr.output, h.gr.size, h.gr.block⟩, h.ho, h.sh⟩
 obtain ⟨h2, g2⟩ := h1.put (d' := d') hs
 have hb : Go.RowKit.Below (putRowK E.enc E.k (Sort.ahead W n) E.blk 0 d').heap.size (putRowK E.enc E.k (Sort.ahead W n) E.blk 0 d') (grow (putRowK E.enc E.k (Sort.ahead W n) E.blk 0 d') os) :=
  ⟨rfl, rfl, rfl, by rw [size_grow]; omega, fun j hj => heap_grow_old _ _ hj⟩
 exact ⟨h2.below hb, grownBy_then (w1 := putRowK E.enc E.k (Sort.ahead W n) E.blk 0 d') ⟨g2.os, g2.tape, g2.output, g2.size, g2.block⟩ (grownBy_of_below hb)⟩
theorem In.sortWorld {E : SE P α} {w W W' : World} {d d' : Array α} (h : In E w W d) (hs : d'.size = d.size) (hw : ∃ n os, W' = sortWorldK E.enc E.k W E.blk 0 n d' os) : In E w W' d' := by
 obtain ⟨h1, h2⟩ := h.st.sortWorld hs hw
 exact h.step h1 h2
set_option maxHeartbeats 12800000 in
set_option maxRecDepth 1000000 in
theorem l_pdq (L : LaysGg.n14 P ρ) (E : SE P α) (hO : SWO E.lt) (hL : E.LessL) (hS : E.SwapL) :
  ∀ (N a b limit : Nat) (d : Array α) (w : World), b - a < N → St E w d → a ≤ b → b ≤ E.size → limit < 4611686018427387904 → Go.Sort.Below E.lt a b d →
  Calls P (ρ.f 14) #[.agg #[.func (.func E.g) #[] E.lb, .func (.func E.sf) #[] E.sb], .int .i64 a, .int .i64 b, .int .i64 limit] w fun e w' => e = .returned (.tuple #[]) ∧ St E w' (pdq E.lt d a b limit true true) ∧ w.grownBy w' (some E.blk) := by
 have mixed := L.mixed
 have t0 := L.t0; have a0 := L.a0; have z0 := L.z0; have v0 := L.v0
 have t3 := L.t3; have a3 := L.a3; have z3 := L.z3; have v3 := L.v3
 have t4 := L.t4; have a4 := L.a4; have z4 := L.z4; have v4 := L.v4
 have t5 := L.t5; have a5 := L.a5; have z5 := L.z5; have v5 := L.v5
 have t9 := L.t9; have a9 := L.a9; have z9 := L.z9; have v9 := L.v9
 have t26 := L.t26; have a26 := L.a26; have z26 := L.z26; have v26 := L.v26
 have t37 := L.t37; have a37 := L.a37; have z37 := L.z37; have v37 := L.v37
 have t41 := L.t41; have a41 := L.a41; have z41 := L.z41; have v41 := L.v41
 have t44 := L.t44; have a44 := L.a44; have z44 := L.z44; have v44 := L.v44
 have t49 := L.t49; have a49 := L.a49; have z49 := L.z49; have v49 := L.v49
 have t51 := L.t51; have a51 := L.a51; have z51 := L.z51; have v51 := L.v51
 have t53 := L.t53; have a53 := L.a53; have z53 := L.z53; have v53 := L.v53
 have t54 := L.t54; have a54 := L.a54; have z54 := L.z54; have v54 := L.v54
 have t58 := L.t58; have a58 := L.a58; have z58 := L.z58; have v58 := L.v58
 have t60 := L.t60; have a60 := L.a60; have z60 := L.z60; have v60 := L.v60
 have t64 := L.t64; have a64 := L.a64; have z64 := L.z64; have v64 := L.v64
 have t66 := L.t66; have a66 := L.a66; have z66 := L.z66; have v66 := L.v66
 have t67 := L.t67; have a67 := L.a67; have z67 := L.z67; have v67 := L.v67
 have u44 := run_underlying L.t44
 have eg := E.eg
 have hsz := E.hsz
 have e26 : ∀ args w, (callFunc (ρ.f 26) args).run P w = .ok (.enter (ρ.f 26) args) w := enters_of L.f26 (by kernel_rfl) rfl
 have e27 : ∀ args w, (callFunc (ρ.f 27) args).run P w = .ok (.enter (ρ.f 27) args) w := enters_of L.f27 (by kernel_rfl) rfl
 have e28 : ∀ args w, (callFunc (ρ.f 28) args).run P w = .ok (.enter (ρ.f 28) args) w := enters_of L.f28 (by kernel_rfl) rfl
 have e29 : ∀ args w, (callFunc (ρ.f 29) args).run P w = .ok (.enter (ρ.f 29) args) w := enters_of L.f29 (by kernel_rfl) rfl
 have e30 : ∀ args w, (callFunc (ρ.f 30) args).run P w = .ok (.enter (ρ.f 30) args) w := enters_of L.f30 (by kernel_rfl) rfl
 have e31 : ∀ args w, (callFunc (ρ.f 31) args).run P w = .ok (.enter (ρ.f 31) args) w := enters_of L.f31 (by kernel_rfl) rfl
 have e32 : ∀ args w, (callFunc (ρ.f 32) args).run P w = .ok (.enter (ρ.f 32) args) w := enters_of L.f32 (by kernel_rfl) rfl
 have e33 : ∀ args w, (callFunc (ρ.f 33) args).run P w = .ok (.enter (ρ.f 33) args) w := enters_of L.f33 (by kernel_rfl) rfl
 have e14 : ∀ args w, (callFunc (ρ.f 14) args).run P w = .ok (.enter (ρ.f 14) args) w := enters_of L.f14 (by kernel_rfl) rfl
 intro N
 induction N with
 | zero => intro _ _ _ _ _ h; exact absurd h (Nat.not_lt_zero _)
 | succ N ih =>
  intro a b limit d w hN h0 hab hb hlimit hBel0
  have I0 := Aside0.mk (In.start h0 (ρ.t 44))
  have hds0 := h0.sz
  clear h0
  go_enter L.f14, BodyGg.n14_ntmps ρ
  go_wp2
  go_loopg [1, 2, 3, 8, 9] (b - a) (fun kx s1 s2 s3 s8 s9 wr => ∃ (a' b' lim : Nat) (wb wp : Bool) (dk : Array α), s1 = .int .i64 a' ∧ s2 = .int .i64 b' ∧ s3 = .int .i64 lim ∧ s8 = .bool wb ∧ s9 = .bool wp ∧
   a' ≤ b' ∧ b' ≤ E.size ∧ b' - a' ≤ kx ∧ kx ≤ b - a ∧ lim ≤ limit ∧ dk.size = E.size ∧ Aside0 (Go.Sort.Below E.lt a' b' dk) ∧ Aside0 (In E w wr dk) ∧ Aside0 (pdq E.lt dk a' b' lim wb wp = pdq E.lt d a b limit true true))
  case atStart => exact ⟨a, b, limit, true, true, d, rfl, rfl, rfl, rfl, rfl, hab, hb, Nat.le_refl _, Nat.le_refl _, Nat.le_refl _, hds0, ⟨hBel0⟩, I0, ⟨rfl⟩⟩
  case round =>
   clear I0
   obtain ⟨a', b', lim, wb, wp, dk, rfl, rfl, rfl, rfl, rfl, hab', hb', hkx, hkN, hlim, hds, HB, I, A⟩ := hrel
   have x0 := I.out.c0
   have x1 := I.out.c1
   by_cases h12 : b' - a' ≤ 12
   ·have h12z : (b' : Int) - (a' : Int) ≤ 12 := by omega
    have hc := l_insertionSort (P := P) (ρ := ρ) { L with } E hL hS a' b' dk wr I.out.st hab' hb'
    go_wp2_with (go_at_fn (ρ.f 26); refine hc.mono ?_; rintro e w1 ⟨rfl, S1, g1⟩; replace S1 := Aside0.mk (I.out.step S1 g1); clear g1)
    (try simp only [Exit.inBlock, Exit.then]); refine bodyPost_ret (results_none rfl _ _ _) rfl ?_
    exact ⟨rfl, by rw [← A.out, pdq_small h12]; exact S1.out.st, S1.out.fr⟩
   ·have h12z : ¬ ((b' : Int) - (a' : Int) ≤ 12) := by omega
    by_cases hl0 : lim = 0
    ·subst hl0
     have hc := l_heapSort (P := P) (ρ := ρ) { L with } E hL hS a' b' dk wr I.out.st hab' hb'
     go_wp2_with (go_at_fn (ρ.f 27); refine hc.mono ?_; rintro e w1 ⟨rfl, S1, g1⟩; replace S1 := Aside0.mk (I.out.step S1 g1); clear g1)
     (try simp only [Exit.inBlock, Exit.then]); refine bodyPost_ret (results_none rfl _ _ _) rfl ?_
     exact ⟨rfl, by rw [← A.out, pdq_heap h12 rfl]; exact S1.out.st, S1.out.fr⟩
    ·have hl0z : ¬ ((lim : Int) = 0) := by omega
     obtain ⟨s1, B1, hc1, s2, B2, hpv, s3, B3⟩ := rd_facts (lt := E.lt) (limit := lim) (wb := wb) (wp := wp) hO partialInsertionSort_holds reverseRange_holds (show a' < b' by omega) (show b' ≤ dk.size by omega) HB.out
     replace B1 := Aside0.mk B1
     replace B2 := Aside0.mk B2
     replace B3 := Aside0.mk B3
     go_upto_if 35 with fail
     go_cut [3] from 19 (fun s3 wc => s3 = .int .i64 (rd E.lt dk a' b' lim wb wp).lim ∧ Aside0 (In E w wc (rd E.lt dk a' b' lim wb wp).d1))
     case first =>
      cases wb
      ·have hc := Any.breakPatterns_func_cells_w (P := P) (ρ := ρ) { L with } E.enc E.k E.hk (.func E.g) #[] E.lb E.sf E.sb E.blk 0 a' b' dk wr (by rw [hds]; exact hS) I.out.st.ho I.out.st.lt hab' (by omega) (by omega)
       go_wp2_with (go_at_fn (ρ.f 28); refine hc.mono ?_; rintro e w1 ⟨rfl, hw1⟩)
       go_meet
       case rel =>
        refine ⟨?_, ⟨I.out.sortWorld s1 hw1⟩⟩
        show Value.int .i64 ((lim : Int) - 1) = Value.int .i64 ((lim - 1 : Nat) : Int)
        congr 1
        omega
      ·go_wp2_with fail
       go_meet
       case rel => exact ⟨rfl, I⟩
     case rest =>
      obtain ⟨rfl, I1⟩ := hcut
      clear x0 x1 I
      have y0 := I1.out.c0
      have y1 := I1.out.c1
      have hc17 : Calls P (ρ.f 29) #[.agg #[.func (.func E.g) #[] E.lb, .func (.func E.sf) #[] E.sb], .int .i64 a', .int .i64 b'] wc fun e w' => e = .returned (.tuple #[.int .i64 (rd E.lt dk a' b' lim wb wp).c.1, .int .i64 (hintCode (rd E.lt dk a' b' lim wb wp).c.2)]) ∧ Go.RowKit.Below wc.heap.size wc w' :=
       l_choosePivot (P := P) (ρ := ρ) { L with } E hL a' b' wc (rd E.lt dk a' b' lim wb wp).d1 I1.out.st (by omega) (by omega)
      go_upto_if 50 with (go_at_fn (ρ.f 29); refine hc17.mono ?_; rintro e w2 ⟨rfl, hw2⟩; replace hw2 := Aside0.mk (I1.out.step (I1.out.st.below hw2) (grownBy_of_below hw2)))
      clear y0 y1 I1
      have z0 := hw2.out.c0
      have z1 := hw2.out.c1
      go_cut [11, 12] from 19 (fun s11 s12 wc => s11 = .int .i64 (rd E.lt dk a' b' lim wb wp).pivot ∧ s12 = .int .i64 (hintCode (rd E.lt dk a' b' lim wb wp).hint) ∧ Aside0 (In E w wc (rd E.lt dk a' b' lim wb wp).d2))
      case first =>
       by_cases hh : (rd E.lt dk a' b' lim wb wp).c.2 = .decreasing
       ·have hcode : hintCode (rd E.lt dk a' b' lim wb wp).c.2 = 2 := by rw [hh]; rfl
        obtain ⟨e2, epv, eht⟩ := rd_dec hh
        have hc18 := Any.reverseRange_func_cells_w (P := P) (ρ := ρ) { L with } E.enc E.k E.hk (.func E.g) #[] E.lb E.sf E.sb E.blk 0 a' b' (rd E.lt dk a' b' lim wb wp).d1 w2 (by rw [s1, hds]; exact hS) hw2.out.st.ho hw2.out.st.lt hab' (by omega) (by omega)
        go_wp2_with (go_at_fn (ρ.f 30); refine hc18.mono ?_; rintro e w3 ⟨rfl, hw3⟩)
        go_meet
        case rel =>
         refine ⟨?_, by rw [eht]; rfl, ⟨by rw [e2]; exact hw2.out.sortWorld (by rw [← e2, s2, s1]) hw3⟩⟩
         rw [epv]
         congr 1
         omega
       ·have hcode : ¬ (hintCode (rd E.lt dk a' b' lim wb wp).c.2 = 2) := fun h => hh (hintCode_two h)
        obtain ⟨e2, epv, eht⟩ := rd_not hh
        go_wp2_with fail
        go_meet
        case rel => exact ⟨by rw [epv], by rw [eht], ⟨by rw [e2]; exact hw2.out⟩⟩
      case rest =>
       obtain ⟨rfl, rfl, I3⟩ := hcut
       clear z0 z1 hw2
       have v0 := I3.out.c0
       have v1 := I3.out.c1
       go_upto_region 16 with fail
       go_cut [12, 68] from 19 (fun s12 s68 wx => s12 = .int .i64 (hintCode (rd E.lt dk a' b' lim wb wp).hint) ∧ s68 = .bool (wb && wp && decide ((rd E.lt dk a' b' lim wb wp).hint = .increasing)) ∧ wx = wc)
       case first =>
        cases wb <;> cases wp <;> cases hh3 : (rd E.lt dk a' b' lim _ _).hint <;>
         (have hcode3 := congrArg hintCode hh3
          simp only [hintCode] at hcode3
          go_wp2_with fail
          go_meet
          exact ⟨by simp [hh3, hintCode], by simp [hh3, hintCode], rfl⟩)
       case rest =>
        obtain ⟨rfl, rfl, rfl⟩ := hcut
        go_upto_if 68 with fail
        go_cut [] from 19 (fun wx => (rd E.lt dk a' b' lim wb wp).pi.2 = false ∧ Aside0 (In E w wx (rd E.lt dk a' b' lim wb wp).pi.1))
        case first =>
         cases h68 : (wb && wp && decide ((rd E.lt dk a' b' lim wb wp).hint = .increasing))
         ·have epi := rd_pi_no h68
          go_wp2_with fail
          go_meet
          case rel => exact ⟨by rw [epi], ⟨by rw [epi]; exact I3.out⟩⟩
         ·have epi := rd_pi_yes h68
          have hc19 := l_partialInsertionSort (P := P) (ρ := ρ) { L with } E hL hS a' b' (rd E.lt dk a' b' lim wb wp).d2 wc I3.out.st (by omega) (by omega)
          rw [← epi] at hc19
          go_wp2_with (go_at_fn (ρ.f 31); refine hc19.mono ?_; rintro e w4 ⟨rfl, S4, g4⟩; replace S4 := Aside0.mk (I3.out.step S4 g4); clear g4)
          all_goals first
           | (have hp2 : (rd E.lt dk a' b' lim wb wp).pi.2 = false := by rw [epi]; assumption
              go_meet
              exact ⟨hp2, S4⟩)
           | (have hp2 : (rd E.lt dk a' b' lim wb wp).pi.2 = true := by rw [epi]; assumption
              (try simp only [Exit.inBlock, Exit.then]); refine bodyPost_ret (results_none rfl _ _ _) rfl ?_
              exact ⟨rfl, by rw [← A.out, pdq_done h12 hl0 hp2]; exact S4.out.st, S4.out.fr⟩)
        case rest =>
         obtain ⟨hp2, I5⟩ := hcut
         clear v0 v1 I3
         have t0' := I5.out.c0
         have t1' := I5.out.c1
         go_upto_region 18 with fail
         go_cut [83] from 19 (fun s83 wx => s83 = .bool (decide (a' > 0) && !E.lt (rd E.lt dk a' b' lim wb wp).pi.1[a' - 1]! (rd E.lt dk a' b' lim wb wp).pi.1[(rd E.lt dk a' b' lim wb wp).pivot]!) ∧ Aside0 (In E w wx (rd E.lt dk a' b' lim wb wp).pi.1))
         case first =>
          rcases Nat.eq_zero_or_pos a' with ha0 | ha0
          ·have ha0z : decide ((a' : Int) > 0) = false := decide_eq_false (by omega)
           go_wp2_with fail
           go_meet
           case rel => exact ⟨by simp [ha0], I5⟩
          ·have ha0z : (a' : Int) > 0 := by omega
           cases hlv : E.lt (rd E.lt dk a' b' lim wb wp).pi.1[a' - 1]! (rd E.lt dk a' b' lim wb wp).pi.1[(rd E.lt dk a' b' lim wb wp).pivot]! <;>
            (have hl := I5.out.less hL (i := a' - 1) (j := (rd E.lt dk a' b' lim wb wp).pivot) (x := (a' : Int) - 1) (y := ((rd E.lt dk a' b' lim wb wp).pivot : Int)) (by omega) (by omega) (by omega) rfl hlv
             go_wp2_with (go_at_fn E.g; refine hl.mono ?_; rintro e w' ⟨rfl, I6⟩; replace I6 := Aside0.mk I6)
             go_meet
             exact ⟨by simp [ha0, hlv], I6⟩)
         case rest =>
          obtain ⟨rfl, I6⟩ := hcut
          clear t0' t1' I5
          have q0 := I6.out.c0
          have q1 := I6.out.c1
          cases h87 : (decide (a' > 0) && !E.lt (rd E.lt dk a' b' lim wb wp).pi.1[a' - 1]! (rd E.lt dk a' b' lim wb wp).pi.1[(rd E.lt dk a' b' lim wb wp).pivot]!)
          ·obtain ⟨mid, ap, d4, hx⟩ : ∃ mid ap d4, partition E.lt (rd E.lt dk a' b' lim wb wp).pi.1 a' b' (rd E.lt dk a' b' lim wb wp).pivot = (mid, ap, d4) := ⟨(partition E.lt (rd E.lt dk a' b' lim wb wp).pi.1 a' b' (rd E.lt dk a' b' lim wb wp).pivot).1, (partition E.lt (rd E.lt dk a' b' lim wb wp).pi.1 a' b' (rd E.lt dk a' b' lim wb wp).pivot).2.1, (partition E.lt (rd E.lt dk a' b' lim wb wp).pi.1 a' b' (rd E.lt dk a' b' lim wb wp).pivot).2.2, rfl⟩
           obtain ⟨r1, r2, r3, r4, r5, r6, r7⟩ := round_part hO (partition_holds E.lt) hpv.1 hpv.2 (show b' ≤ (rd E.lt dk a' b' lim wb wp).pi.1.size by omega) B3.out hx
           have hc22 := l_partition (P := P) (ρ := ρ) { L with } E hL hS a' b' (rd E.lt dk a' b' lim wb wp).pivot (rd E.lt dk a' b' lim wb wp).pi.1 wc I6.out.st hpv.1 hpv.2 hb'
           rw [hx] at hc22
           have X := Aside0.mk hx
           replace r4 := Aside0.mk r4
           replace r5 := Aside0.mk r5
           replace r6 := Aside0.mk r6
           replace r7 := Aside0.mk r7
           clear hx
           go_upto_if 109 with (go_at_fn (ρ.f 33); refine hc22.mono ?_; rintro e w7 ⟨rfl, S7, g7⟩; replace S7 := Aside0.mk (I6.out.step S7 g7); clear g7)
           have hx := X.out
           have hs4 : d4.size = E.size := r3.trans (s3.trans hds)
           clear q0 q1 I6
           have p0 := S7.out.c0
           have p1 := S7.out.c1
           by_cases h4 : mid - a' < b' - mid
           ·have h4z : (mid : Int) - (a' : Int) < (b' : Int) - (mid : Int) := by omega
            have hih := ih a' mid (rd E.lt dk a' b' lim wb wp).lim d4 w7 (by omega) S7.out.st (by omega) (by omega) (Nat.lt_of_le_of_lt (Nat.le_trans rd_lim_le hlim) hlimit) r4.out
            obtain ⟨pL, sL⟩ := pdq_sorts E.lt hO d4 a' mid (rd E.lt dk a' b' lim wb wp).lim true true (by omega) (by omega) r4.out
            replace pL := Aside0.mk pL
            replace sL := Aside0.mk sL
            go_wp2_with (go_at_fn (ρ.f 14); refine hih.mono ?_; rintro e w8 ⟨rfl, S8, g8⟩; replace S8 := Aside0.mk (S7.out.step S8 g8); clear g8)
            go_roundg (b' - (mid + 1))
            case measure => omega
            case rel =>
             refine ⟨mid + 1, b', (rd E.lt dk a' b' lim wb wp).lim, decide (mid - a' ≥ (b' - a') / 8), ap, pdq E.lt d4 a' mid (rd E.lt dk a' b' lim wb wp).lim true true, by simp, rfl, rfl, ?_, rfl, by omega, by omega, Nat.le_refl _, by omega, Nat.le_trans rd_lim_le hlim, by rw [pL.out.1, hs4], ⟨(r6.out _ pL.out sL.out).1⟩, S8, ⟨?_⟩⟩
             ·exact congrArg Value.bool (eighth (by omega) (by omega))
             ·rw [← A.out, pdq_left h12 hl0 hp2 h87 (by rw [hx]; exact ⟨r1, r2⟩) (by rw [hx]; exact h4), hx]
           ·have h4z : ¬ ((mid : Int) - (a' : Int) < (b' : Int) - (mid : Int)) := by omega
            have hih := ih (mid + 1) b' (rd E.lt dk a' b' lim wb wp).lim d4 w7 (by omega) S7.out.st (by omega) (by omega) (Nat.lt_of_le_of_lt (Nat.le_trans rd_lim_le hlim) hlimit) r5.out
            rw [show ((mid + 1 : Nat) : Int) = (mid : Int) + 1 by omega] at hih
            obtain ⟨pL, sL⟩ := pdq_sorts E.lt hO d4 (mid + 1) b' (rd E.lt dk a' b' lim wb wp).lim true true (by omega) (by omega) r5.out
            replace pL := Aside0.mk pL
            replace sL := Aside0.mk sL
            go_wp2_with (go_at_fn (ρ.f 14); refine hih.mono ?_; rintro e w8 ⟨rfl, S8, g8⟩; replace S8 := Aside0.mk (S7.out.step S8 g8); clear g8)
            go_roundg (mid - a')
            case measure => omega
            case rel =>
             refine ⟨a', mid, (rd E.lt dk a' b' lim wb wp).lim, decide (b' - mid ≥ (b' - a') / 8), ap, pdq E.lt d4 (mid + 1) b' (rd E.lt dk a' b' lim wb wp).lim true true, rfl, rfl, rfl, ?_, rfl, by omega, by omega, Nat.le_refl _, by omega, Nat.le_trans rd_lim_le hlim, by rw [pL.out.1, hs4], ⟨(r7.out _ pL.out sL.out).1⟩, S8, ⟨?_⟩⟩
             ·exact congrArg Value.bool (eighth (by omega) (by omega))
             ·rw [← A.out, pdq_right h12 hl0 hp2 h87 (by rw [hx]; exact ⟨r1, r2⟩) (by rw [hx]; exact h4), hx]
          ·have h87' := h87
           simp only [Bool.and_eq_true, decide_eq_true_eq, Bool.not_eq_true'] at h87'
           obtain ⟨mid, d4, hx⟩ : ∃ mid d4, partitionEqual E.lt (rd E.lt dk a' b' lim wb wp).pi.1 a' b' (rd E.lt dk a' b' lim wb wp).pivot = (mid, d4) := ⟨(partitionEqual E.lt (rd E.lt dk a' b' lim wb wp).pi.1 a' b' (rd E.lt dk a' b' lim wb wp).pivot).1, (partitionEqual E.lt (rd E.lt dk a' b' lim wb wp).pi.1 a' b' (rd E.lt dk a' b' lim wb wp).pivot).2, rfl⟩
           obtain ⟨r1, r2, r3, r4, _⟩ := round_eq hO (partitionEqual_holds E.lt) h87'.1 hpv.1 hpv.2 (show b' ≤ (rd E.lt dk a' b' lim wb wp).pi.1.size by omega) B3.out h87'.2 hx
           have hc21 := l_partitionEqual (P := P) (ρ := ρ) { L with } E hL hS a' b' (rd E.lt dk a' b' lim wb wp).pivot (rd E.lt dk a' b' lim wb wp).pi.1 wc I6.out.st hpv.1 hpv.2 hb'
           rw [hx] at hc21
           have X := Aside0.mk hx
           replace r4 := Aside0.mk r4
           replace h87' := Aside0.mk h87'
           clear hx
           go_wp2_with (go_at_fn (ρ.f 32); refine hc21.mono ?_; rintro e w7 ⟨rfl, S7, g7⟩; replace S7 := Aside0.mk (I6.out.step S7 g7); clear g7)
           go_roundg (b' - mid)
           case measure => omega
           case rel =>
            have hx := X.out
            exact ⟨mid, b', (rd E.lt dk a' b' lim wb wp).lim, wb, wp, d4, rfl, rfl, rfl, rfl, rfl, r2, hb', Nat.le_refl _, by omega, Nat.le_trans rd_lim_le hlim, by rw [r3, s3, hds], r4, S7, ⟨by rw [← A.out, pdq_eq h12 hl0 hp2 h87 (by rw [hx]; exact ⟨r1, r2⟩), hx]⟩⟩
theorem l_sort_Slice (L : LaysGg.n6 P ρ) (t e : TypeId) (i ie : TypeInfo) (hi : P.info? t = some i) (hd : i.desc = .slice e) (hpk : P.packed t = false) (hie : P.info? e = some ie) (ke : Nat) (hke : ∀ w, (Extern.Rtype.kind e).run P w = .ok ke w)
  (enc : α → List Value) (k : Nat) (hk : ∀ x, (enc x).length = k) (hs1 : ie.size = k) (hagg : ∀ w, (isAgg e).run P w = .ok true w) (h1 : ∀ x, ∀ v ∈ enc x, v.oneCell' = true) (lt : α → α → Bool) (hO : SWO lt) (g : Nat) (lb : Array Value)
  (eg : ∀ args w, (callFunc g args).run P w = .ok (.enter g args) w) (blk c ty cs : Nat) (d : Array α) (h2 : 2 ≤ d.size) (hsz : d.size < 4611686018427387904)
  (f : Nat) (hf : P.funcs.findIdx? (·.name == "internal/reflectlite" ++ ".Swapper$" ++ toString (swapperK d.size ie ke)) = some f)
  (gS : Bool) (hx : ∀ args W, (callFunc f args).run P W = ((Extern.ReflectliteSwapper.swap gS args).run P W).andThen fun v w' => .ok (.value v) w')
  (w : World) (hH : HoldsK enc k w blk 0 d) (hsh : ∃ cur, w.heap[blk]? = some (.cells cur ty (0, 0)) ∧ cur.size = cs)
  (hless : ∀ (W : World) (dk : Array α), dk.size = d.size → w.grownBy W (some blk) → HoldsK enc k W blk 0 dk → ∀ i j : Nat, i < d.size → j < d.size → Calls P g (#[.int .i64 i, .int .i64 j] ++ lb) W fun e w' => e = .returned (.bool (lt dk[i]! dk[j]!)) ∧ Go.RowKit.Below W.heap.size W w') :
  Calls P (ρ.f 6) #[.iface t (.slice (some ⟨blk, 0, none⟩) d.size c), .func (.func g) #[] lb] w fun e w' =>
   e = .returned (.tuple #[]) ∧ ∃ d', PermIn 0 d.size d d' ∧ SortedIn lt 0 d.size d' ∧ HoldsK enc k w' blk 0 d' ∧ (∃ cur, w'.heap[blk]? = some (.cells cur ty (0, 0)) ∧ cur.size = cs) ∧ w.grownBy w' (some blk) := by
 refine Any.sort_Slice_of_pdq L t e i ie hi hd hpk hie ke hke _ d.size c hsz f hf (.func g) #[] lb w _ ?_
 have hblk : blk < w.heap.size := by obtain ⟨cur, h5, _⟩ := hsh; exact (Array.getElem?_eq_some_iff.1 h5).1
 have hB : sliceBound P e ie ke (some ⟨blk, 0, none⟩) d.size c = #[.slice (some ⟨blk, 0, none⟩) d.size c, typeHandle P e] := by
  unfold sliceBound; rw [if_neg (swapperK_gt _ _ _ h2)]
 have hb0 : Go.RowKit.Below w.heap.size w (sliceWorld P ρ t (some ⟨blk, 0, none⟩) d.size c w) := by
  unfold sliceWorld; exact below_alloc (below_alloc1 w _) _
 rw [hB]
 have hlim : Lib.bitLen d.size < 4611686018427387904 := Nat.lt_of_le_of_lt (Lib.bitLen_le d.size 62 (by omega) (by omega)) (by omega)
 let E : SE P α := ⟨enc, k, hk, lt, g, lb, f, #[.slice (some ⟨blk, 0, none⟩) d.size c, typeHandle P e], blk, ty, cs, d.size, w, eg, hsz, hblk⟩
 have hS : E.SwapL := swapSwapsK_of_literal gS f hx e ie hie enc k hk hs1 hagg h1 blk 0 d.size c
 have hL : E.LessL := fun W dk h i j hi hj => hless W dk h.sz h.gr h.ho i j hi hj
 have h0 : St E w d := St.start (E := E) hH rfl hsh
 have hp := l_pdq (P := P) (ρ := ρ) { L with } E hO hL hS (d.size + 1) 0 d.size (Lib.bitLen d.size) d _ (by omega) (h0.below hb0) (Nat.zero_le _) (Nat.le_refl _) hlim (Or.inl rfl)
 refine hp.mono ?_
 rintro e w' ⟨rfl, hs, hg⟩
 have h5 := pdq_sorts lt hO d 0 d.size (Lib.bitLen d.size) true true (Nat.zero_le _) (Nat.le_refl _) (Or.inl rfl)
 exact ⟨rfl, _, h5.1, h5.2, hs.ho, hs.sh, hs.gr⟩
end Go.Proofs.Ytkdendlgaaimbaa.X
namespace Go.Proofs.Ytkdendlgaaimbaa.X
open Go.RowKit Go.Shelf Go.Lib Go.Sort Go.Proofs.YtkdendlgaaimbaaW.PrintWords
set_option linter.unusedVariables false
set_option linter.unusedSimpArgs false
theorem swo_row : SWO rowAhead := ⟨fun x => by
  cases h : rowAhead x x with
  | false => rfl
  | true => exact absurd ((rowAhead_iff _ _).1 h) (ltR_irr x), fun x y z h1 h2 => (rowAhead_iff _ _).2 (ltR_trans ((rowAhead_iff _ _).1 h1) ((rowAhead_iff _ _).1 h2)), fun x y z h1 h2 => by
  cases h : rowAhead x z with
  | false => rfl
  | true =>
   have h3 := (rowAhead_iff _ _).1 h
   have n1 : ¬ ltR x y := fun e => by rw [(rowAhead_iff _ _).2 e] at h1; cases h1
   have n2 : ¬ ltR y z := fun e => by rw [(rowAhead_iff _ _).2 e] at h2; cases h2
   unfold ltR at h3 n1 n2; omega⟩
set_option maxRecDepth 100000 in
set_option maxHeartbeats 2000000 in
theorem lessRw (blk c Bs size : Nat) (W : World) (G : Nat → Rw) (hs : W.cell? ⟨Bs, 0, none⟩ = some (.slice (some ⟨blk, 0, none⟩) size c))
  (hc : ∀ t, t < size → W.cell? ⟨blk, t * 5, none⟩ = some (.int .i64 (G t).f0) ∧ W.cell? ⟨blk, t * 5 + 1, none⟩ = some (.int .i64 (G t).f1) ∧ W.cell? ⟨blk, t * 5 + 2, none⟩ = some (.int .i64 (G t).f2.f0) ∧ W.cell? ⟨blk, t * 5 + 3, none⟩ = some (.int .i64 (G t).f2.f1) ∧ W.cell? ⟨blk, t * 5 + 4, none⟩ = some (.int .i64 (G t).f3)) (i j : Nat) (hi : i < size) (hj : j < size) (hsz : size < 4611686018427387904) :
  Calls Try.prog 134 #[.int .i64 i, .int .i64 j, .pointer (some ⟨Bs, 0, none⟩)] W fun e w' => e = .returned (.bool (rowAhead (G i) (G j))) ∧ Go.RowKit.Below W.heap.size W w' := by
 obtain ⟨ci0, ci1, ci2, ci3, ci4⟩ := hc i hi
 obtain ⟨cj0, cj1, cj2, cj3, cj4⟩ := hc j hj
 clear hc
 generalize G i = x at *
 generalize G j = y at *
 have gi : (i : Int) < (size : Int) := by omega
 have gj : (j : Int) < (size : Int) := by omega
 have qs := fun u => Ext.cell hs u
 have p0 := fun u => Ext.cell ci0 u
 have p1 := fun u => Ext.cell ci1 u
 have p2 := fun u => Ext.cell ci2 u
 have p3 := fun u => Ext.cell ci3 u
 have p4 := fun u => Ext.cell ci4 u
 have q0 := fun u => Ext.cell cj0 u
 have q1 := fun u => Ext.cell cj1 u
 have q2 := fun u => Ext.cell cj2 u
 have q3 := fun u => Ext.cell cj3 u
 have q4 := fun u => Ext.cell cj4 u
 go_enter Try.func134, Try.ntmps134
 go_wp2
 refine wp_region_ext (by kernel_rfl) (by kernel_rfl) ?_
 repeat (any_goals (first | go_big_quiet_step ((go_at_call 98; exact Calls.extV (impl_rowAhead x y _))) | quiet_step ((go_at_call 98; exact Calls.extV (impl_rowAhead x y _))) | (refine wpQuiet_step (fun K hK => ?_); go_simp; split <;> (refine hK _ ?_; clear hK K))))
 all_goals (refine wpQuiet_nil ?_; intro u)
 go_wp2
 go_ret
 exact ⟨rfl, u.bel⟩
theorem pwR_short {α : Type} {R : α → α → Prop} {l : List α} (h : l.length ≤ 1) : l.Pairwise R := by
 match l, h with
 | [], _ => exact List.Pairwise.nil
 | [x], _ => exact List.pairwise_singleton _ _
set_option maxRecDepth 100000 in
theorem svTRw : ∃ i, Try.prog.info? 27 = some i ∧ i.desc = .slice 102 := ⟨(Try.prog.info? 27).get (by kernel_rfl), by kernel_rfl, by kernel_rfl⟩
theorem svERw : ∃ i, Try.prog.info? 102 = some i ∧ i.size = 5 ∧ i.hasPointers = false ∧ i.bytes = 40 := ⟨(Try.prog.info? 102).get (by kernel_rfl), by kernel_rfl, by kernel_rfl, by kernel_rfl, by kernel_rfl⟩
set_option maxRecDepth 100000 in
set_option maxHeartbeats 2000000 in
theorem sortRw (A : Option Addr) (c Bs base e : Nat) (ok : Nat → Prop) (xs : List Rw) (w : World) (hR : kRw.R e w base ok (.slice A xs.length c) xs) (hBs : w.cell? ⟨Bs, 0, none⟩ = some (.slice A xs.length c)) (hB1 : Bs < w.heap.size) (hB2 : ∀ a, A = some a → Bs ≠ a.block) (hsz : xs.length < 4611686018427387904) :
  Calls Try.prog 133 #[.iface 27 (.slice A xs.length c), .func (.func 134) #[] #[.pointer (some ⟨Bs, 0, none⟩)]] w fun en w' =>
   en = .returned (.tuple #[]) ∧ ∃ ys : List Rw, ys.Perm xs ∧ ys.Pairwise (fun a b => rowAhead b a = false) ∧ kRw.R e w' base ok (.slice A xs.length c) ys ∧ w.grownBy w' (Value.slice A xs.length c).ownBlock := by
 obtain ⟨iT, hT1, hT2⟩ := svTRw
 obtain ⟨iE, hE1, hE2, hE3, hE4⟩ := svERw
 by_cases h2 : 2 ≤ xs.length
 ·obtain ⟨g, cap, hv, _⟩ := Kd.R_form hR (by omega)
  cases hv
  obtain ⟨_, hH, cur, hb, hcs, hlc, hcm, hbg, hokg⟩ := holds_of_own vRw (fun _ => rfl) (by decide) (fun h => kRw_M.1 h) hR
  have hblk : g < w.heap.size := (Array.getElem?_eq_some_iff.1 hb).1
  have hne : Bs ≠ g := hB2 _ rfl
  have hless : ∀ (W : World) (dk : Array Rw), dk.size = xs.toArray.size → w.grownBy W (some g) → HoldsK vRw 5 W g 0 dk → ∀ i j : Nat, i < xs.toArray.size → j < xs.toArray.size → Calls Try.prog 134 (#[.int .i64 i, .int .i64 j] ++ #[.pointer (some ⟨Bs, 0, none⟩)]) W fun e w' => e = .returned (.bool (rowAhead dk[i]! dk[j]!)) ∧ Go.RowKit.Below W.heap.size W w' := by
   intro W dk hs hgr hHd i j hi hj
   refine lessRw g c Bs xs.toArray.size W (fun t => dk[t]!) (grownBy_cell hgr hB1 hne (by simpa using hBs)) (fun t ht => ?_) i j hi hj (by simpa using hsz)
   have c0 := (hHd.cell (i := t) (c := 0) (by omega) (by omega)).1
   have c1 := (hHd.cell (i := t) (c := 1) (by omega) (by omega)).1
   have c2 := (hHd.cell (i := t) (c := 2) (by omega) (by omega)).1
   have c3 := (hHd.cell (i := t) (c := 3) (by omega) (by omega)).1
   have c4 := (hHd.cell (i := t) (c := 4) (by omega) (by omega)).1
   rw [Nat.zero_add] at c0 c1 c2 c3 c4
   exact ⟨c0, c1, c2, c3, c4⟩
  have hK : Lib.swapperK xs.toArray.size iE 25 = 9 := by
   have c1 : (xs.toArray.size == 0) = false := by simp; intro h; rw [h] at h2; simp at h2
   have c2 : (xs.toArray.size == 1) = false := by simp; omega
   unfold Lib.swapperK
   rw [c1, c2, hE3, hE4]
   rfl
  have hS := l_sort_Slice sa6 27 102 iT iE hT1 hT2 (by kernel_rfl) hE1 25 (fun _ => by kernel_rfl) vRw 5 (fun _ => rfl) hE2 (fun _ => by kernel_rfl)
   (fun x v hv => by simp [vRw] at hv; rcases hv with rfl | rfl | rfl | rfl | rfl <;> rfl) rowAhead swo_row 134 #[.pointer (some ⟨Bs, 0, none⟩)]
   (enters_of Try.func134 (by kernel_rfl) rfl) g c e (c * 5) xs.toArray (by simpa using h2) (by simpa using hsz) 196 (by rw [hK]; kernel_rfl) false
   (fun args W => run_callFunc_extern Try.func196 (by kernel_rfl) (by kernel_rfl) (by kernel_rfl) (e := Extern.ReflectliteSwapper.swap false) (by kernel_rfl) args W) w hH ⟨cur, hb, hcs⟩ hless
  have hS' := hS
  rw [show xs.toArray.size = xs.length from rfl] at hS'
  refine hS'.mono ?_
  rintro en w' ⟨rfl, d', hp, hso, hHd, ⟨cur', hb', hcs'⟩, hgr⟩
  obtain ⟨hd1, _, hd3⟩ := hp
  have hd4 : d'.size = xs.length := hd1
  have e0 : d'.extract 0 xs.length = d' := by rw [← hd4]; exact Array.extract_size
  have e2 : xs.toArray.extract 0 xs.length = xs.toArray := by
   simp
  rw [e0, e2] at hd3
  have hperm : d'.toList.Perm xs := by simpa using hd3
  refine ⟨rfl, d'.toList, hperm, ?_, ?_, hgr⟩
  ·rw [List.pairwise_iff_getElem]
   intro i j hi hj hij
   have := hso i j (Nat.zero_le _) hij (by rw [← hd4]; simpa using hj)
   simpa [show i < d'.size by simpa using hi, show j < d'.size by simpa using hj] using this
  ·have hlen : d'.toList.length = xs.length := by simpa using hd4
   have := own_of_cells (d := kRw) (e := e) (base := base) (ok := ok) (xs := d'.toList) vRw (fun _ => rfl) (by decide) (fun _ _ _ x => kRw_M.2 rfl) hb' (by rw [hcs']; rfl) (by rw [hlen]; exact hlc) hcm hbg hokg (fun j x hj cc u hu => by
    have hjl : j < d'.size := by have := (List.getElem?_eq_some_iff.1 hj).1; simpa using this
    have hcl : cc < 5 := by have := (List.getElem?_eq_some_iff.1 hu).1; simpa [vRw] using this
    have h3 := (hHd.cell (i := j) (c := cc) hjl hcl).1
    rw [Nat.zero_add] at h3
    have hx : d'[j]! = x := by
     have h5 : d'[j]? = some x := by rw [← Array.getElem?_toList]; exact hj
     have h6 : d'[j]? = some d'[j] := Array.getElem?_eq_getElem hjl
     rw [h5] at h6
     rw [getElem!_pos d' j hjl]
     exact (Option.some.inj h6).symm
    rw [hx] at h3
    rw [show kRw.sz = 5 from rfl, h3, ← hu]
    have hcl' : cc < (vRw x).length := by simpa [vRw] using hcl
    rw [List.getElem?_eq_getElem hcl', getElem!_pos (vRw x) cc hcl'])
   rw [hlen] at this
   exact this
 ·have hlen : xs.length ≤ 1 := by omega
  have hS : Calls Try.prog (sa6_ren.f 6) #[.iface 27 (.slice A xs.length c), .func (.func 134) #[] #[.pointer (some ⟨Bs, 0, none⟩)]] w fun e w' => e = .returned (.tuple #[]) ∧ ∃ os, w' = grow w os := by
   by_cases h0 : xs.length = 0
   ·rw [h0]
    exact Any.sort_Slice_tiny sa6 27 102 iT iE hT1 hT2 (by kernel_rfl) hE1 25 (fun _ => by kernel_rfl) A 0 c (by omega) 188 (by rw [show Lib.swapperK 0 iE 25 = 1 from rfl]; kernel_rfl) (.func 134) #[] #[.pointer (some ⟨Bs, 0, none⟩)] w
   ·rw [show xs.length = 1 by omega]
    exact Any.sort_Slice_tiny sa6 27 102 iT iE hT1 hT2 (by kernel_rfl) hE1 25 (fun _ => by kernel_rfl) A 1 c (by omega) 189 (by rw [show Lib.swapperK 1 iE 25 = 2 from rfl]; kernel_rfl) (.func 134) #[] #[.pointer (some ⟨Bs, 0, none⟩)] w
  refine hS.mono ?_
  rintro en w' ⟨rfl, os, rfl⟩
  have hbl : Go.RowKit.Below w.heap.size w (grow w os) := ⟨rfl, rfl, rfl, by rw [size_grow]; omega, fun k hk => heap_grow_old _ _ hk⟩
  have hgr : w.grownBy (grow w os) (Value.slice A xs.length c).ownBlock := ⟨hbl.os, hbl.tape, hbl.output, hbl.size, fun k hk _ => heap_grow_old _ _ hk⟩
  have hR2 : kRw.R e (grow w os) base ok (Value.slice A xs.length c) xs := Kd.R_below hR hbl
  clear hR hBs
  refine ⟨rfl, xs, List.Perm.refl _, ?_, hR2, hgr⟩
  exact pwR_short hlen
end Go.Proofs.Ytkdendlgaaimbaa.X
