/- Conditions: none. -/
import Derived.Test.YtkdendlgaaimbaaYCSo
import Derived.Sort.WalkA6
import Derived.Sort.WalkB2
import Derived.Sort.WalkC4
import Derived.Deep.LoopGhost
namespace Go.Proofs.Ytkdendlgaaimbaa.X
open Go.Shelf Go.RowKit Go.Lib Go.Sort Go.Proofs.YtkdendlgaaimbaaW.PrintWords
set_option linter.unusedVariables false
set_option linter.unusedSimpArgs false
variable {P : Program} {ρ : Ren} {α : Type} [Inhabited α]
set_option maxHeartbeats 16000000 in
set_option maxRecDepth 1000000 in
theorem l_partialInsertionSort (L : LaysGg.n31 P ρ) (E : SE P α) (hL : E.LessL) (hS : E.SwapL) (a b : Nat) (d : Array α) (w : World) (h0 : St E w d) (hab : a < b) (hb : b ≤ E.size) :
  Calls P (ρ.f 31) #[.agg #[.func (.func E.g) #[] E.lb, .func (.func E.sf) #[] E.sb], .int .i64 a, .int .i64 b] w fun e w' => e = .returned (.bool (Sort.partialInsertionSort E.lt d a b).2) ∧ St E w' (Sort.partialInsertionSort E.lt d a b).1 ∧ w.grownBy w' (some E.blk) := by
 have mixed := L.mixed
 have t0 := L.t0; have a0 := L.a0; have z0 := L.z0; have v0 := L.v0
 have t3 := L.t3; have a3 := L.a3; have z3 := L.z3; have v3 := L.v3
 have t4 := L.t4; have a4 := L.a4; have z4 := L.z4; have v4 := L.v4
 have t26 := L.t26; have a26 := L.a26; have z26 := L.z26; have v26 := L.v26
 have t37 := L.t37; have a37 := L.a37; have z37 := L.z37; have v37 := L.v37
 have t44 := L.t44; have a44 := L.a44; have z44 := L.z44; have v44 := L.v44
 have u44 := run_underlying L.t44
 have eg := E.eg
 have hsz := E.hsz
 have I0 := Aside0.mk (In.start h0 (ρ.t 44))
 clear h0
 go_enter L.f31, BodyGg.n31_ntmps ρ
 go_wp2
 go_loopg [7, 8] 5 (fun g1 vi vs wr => ∃ (i s : Nat) (dk : Array α), vi = .int .i64 i ∧ vs = .int .i64 s ∧ s ≤ 5 ∧ 5 - s ≤ g1 ∧ a < i ∧ i ≤ b ∧ Aside0 (In E w wr dk) ∧ Aside0 (partialIns E.lt a b (5 - s) i dk = partialIns E.lt a b 5 (a + 1) d))
 case atStart => exact ⟨a + 1, 0, d, by go_num, rfl, by omega, by omega, by omega, by omega, I0, ⟨rfl⟩⟩
 case round =>
  clear I0
  obtain ⟨i, s, dk, rfl, rfl, hs5, hg1, hai, hib, I, HO⟩ := hrel
  by_cases hs : s < 5
  ·have hsz5 : (s : Int) < 5 := by omega
   go_wp2
   go_loopg [7] (b - i) (fun g2 vi wr2 => ∃ (kx : Nat), vi = .int .i64 kx ∧ i ≤ kx ∧ kx ≤ b ∧ b - kx ≤ g2 ∧ Aside0 (In E w wr2 dk) ∧ Aside0 (scanSorted E.lt dk b kx = scanSorted E.lt dk b i))
   case atStart => exact ⟨i, rfl, Nat.le_refl _, hib, Nat.le_refl _, I, ⟨rfl⟩⟩
   case round =>
    clear I
    obtain ⟨kx, rfl, hik, hkb, hg2, I, HSc⟩ := hrel
    have c0 := I.out.c0
    by_cases hkb' : kx < b
    ·have hkz : (kx : Int) < (b : Int) := by omega
     cases hlv : E.lt dk[kx]! dk[kx - 1]! with
     | false =>
      have HV := Aside0.mk hlv
      clear hlv
      have hl := I.out.less hL (i := kx) (j := kx - 1) (x := (kx : Int)) (y := (kx : Int) - 1) (by omega) (by omega) (by omega) (by omega) HV.out
      go_wp2_with (go_at_fn E.g; refine hl.mono ?_; rintro e w' ⟨rfl, I1⟩; replace I1 := Aside0.mk I1)
      go_roundg (b - (kx + 1))
      case measure => omega
      case rel => exact ⟨kx + 1, by go_num, by omega, by omega, Nat.le_refl _, I1, ⟨by rw [← HSc.out, scanSorted_go E.lt dk b kx hkb' HV.out]⟩⟩
     | true =>
      have HV := Aside0.mk hlv
      have HK : Aside0 (scanSorted E.lt dk b i = kx) := ⟨by rw [← HSc.out, scanSorted_stop E.lt dk b kx (Or.inr hlv)]⟩
      clear hlv
      have hl := I.out.less hL (i := kx) (j := kx - 1) (x := (kx : Int)) (y := (kx : Int) - 1) (by omega) (by omega) (by omega) (by omega) HV.out
      have hkne : ((kx : Int) == (b : Int)) = false := beq_eq_false_iff_ne.2 (by omega)
      by_cases h50 : b - a < 50
      ·have h50z : (b : Int) - (a : Int) < 50 := by omega
       go_wp2_with (go_at_fn E.g; refine hl.mono ?_; rintro e w' ⟨rfl, I1⟩; replace I1 := Aside0.mk I1)
       have hv : Sort.partialInsertionSort E.lt d a b = (dk, false) := by
        unfold Sort.partialInsertionSort
        rw [← HO.out, pi_short E.lt a b s i dk hs (by rw [HK.out]; omega) h50]
       rw [hv]
       go_ret
       exact ⟨rfl, I1.out.st, I1.out.fr⟩
      ·have h50z : ¬ ((b : Int) - (a : Int) < 50) := by omega
       by_cases hka : kx - a ≥ 2
       ·have hkaz : (2 : Int) ≤ (kx : Int) - (a : Int) := by omega
        go_wp2_with (go_at_fn E.g; refine hl.mono ?_; rintro e w' ⟨rfl, I1⟩; have c1 := I1.c1; obtain ⟨W3, hsw, I2⟩ := I1.swap hS (i := kx) (j := kx - 1) (x := (kx : Int)) (y := (kx : Int) - 1) (by omega) (by omega) (by omega) (by omega); replace I2 := Aside0.mk I2; clear I1)
        go_loopg [9] (kx - 1) (fun g3 vj wr3 => ∃ (j : Nat) (dj : Array α), vj = .int .i64 j ∧ j ≤ kx - 1 ∧ j ≤ g3 ∧ Aside0 (In E w wr3 dj) ∧ Aside0 (shiftDown E.lt j dj = shiftDown E.lt (kx - 1) (swp dk kx (kx - 1))))
        case atStart => exact ⟨kx - 1, _, by congr 1; omega, Nat.le_refl _, Nat.le_refl _, I2, ⟨rfl⟩⟩
        case round =>
         clear I2
         obtain ⟨j, dj, rfl, hjk, hg3, I3, HDn⟩ := hrel
         have c3 := I3.out.c0
         by_cases hj1 : 1 ≤ j
         ·have hj1z : (1 : Int) ≤ (j : Int) := by omega
          cases hlv3 : E.lt dj[j]! dj[j - 1]! with
          | true =>
           have HV3 := Aside0.mk hlv3
           clear hlv3
           have hl3 := I3.out.less hL (i := j) (j := j - 1) (x := (j : Int)) (y := (j : Int) - 1) (by omega) (by omega) (by omega) (by omega) HV3.out
           go_wp2_with (go_at_fn E.g; refine hl3.mono ?_; rintro e w' ⟨rfl, I5⟩; have c1 := I5.c1; obtain ⟨W3, hsw, I6⟩ := I5.swap hS (i := j) (j := j - 1) (x := (j : Int)) (y := (j : Int) - 1) (by omega) (by omega) (by omega) (by omega); replace I6 := Aside0.mk I6; clear I5)
           go_roundg (j - 1)
           case measure => omega
           case rel => exact ⟨j - 1, swp dj j (j - 1), by congr 1; omega, by omega, Nat.le_refl _, I6, ⟨by rw [← HDn.out, shiftDown_go E.lt j dj hj1 HV3.out]⟩⟩
          | false =>
           have HV3 := Aside0.mk hlv3
           clear hlv3
           have hl3 := I3.out.less hL (i := j) (j := j - 1) (x := (j : Int)) (y := (j : Int) - 1) (by omega) (by omega) (by omega) (by omega) HV3.out
           have HD : Aside0 (fixDown E.lt a kx (swp dk kx (kx - 1)) = dj) := ⟨by unfold fixDown; rw [if_pos hka, ← HDn.out, shiftDown_stop E.lt j dj (Or.inr HV3.out)]⟩
           by_cases hbk : b - kx ≥ 2
           ·have hbkz : (2 : Int) ≤ (b : Int) - (kx : Int) := by omega
            go_wp2_with (go_at_fn E.g; refine hl3.mono ?_; rintro e w' ⟨rfl, I7⟩; replace I7 := Aside0.mk I7)
            go_loopg [10] (b - (kx + 1)) (fun g4 vj wr4 => ∃ (ju : Nat) (du : Array α), vj = .int .i64 ju ∧ kx + 1 ≤ ju ∧ ju ≤ b ∧ b - ju ≤ g4 ∧ Aside0 (In E w wr4 du) ∧ Aside0 (shiftUp E.lt b ju du = shiftUp E.lt b (kx + 1) dj))
            case atStart => exact ⟨kx + 1, _, by go_num, Nat.le_refl _, by omega, Nat.le_refl _, I7, ⟨rfl⟩⟩
            case round =>
             obtain ⟨ju, du, rfl, hkj, hjb, hg4, I4, HU⟩ := hrel
             have c4 := I4.out.c0
             by_cases hjb' : ju < b
             ·have hjz : (ju : Int) < (b : Int) := by omega
              cases hlv4 : E.lt du[ju]! du[ju - 1]! with
              | true =>
               have HV4 := Aside0.mk hlv4
               clear hlv4
               have hl4 := I4.out.less hL (i := ju) (j := ju - 1) (x := (ju : Int)) (y := (ju : Int) - 1) (by omega) (by omega) (by omega) (by omega) HV4.out
               go_wp2_with (go_at_fn E.g; refine hl4.mono ?_; rintro e w' ⟨rfl, I5⟩; have c1 := I5.c1; obtain ⟨W3, hsw, I6⟩ := I5.swap hS (i := ju) (j := ju - 1) (x := (ju : Int)) (y := (ju : Int) - 1) (by omega) (by omega) (by omega) (by omega); replace I6 := Aside0.mk I6; clear I5)
               go_roundg (b - (ju + 1))
               case measure => omega
               case rel => exact ⟨ju + 1, swp du ju (ju - 1), by go_num, by omega, by omega, Nat.le_refl _, I6, ⟨by rw [← HU.out, shiftUp_go E.lt b ju du hjb' HV4.out]⟩⟩
              | false =>
               have HV4 := Aside0.mk hlv4
               clear hlv4
               have hl4 := I4.out.less hL (i := ju) (j := ju - 1) (x := (ju : Int)) (y := (ju : Int) - 1) (by omega) (by omega) (by omega) (by omega) HV4.out
               go_wp2_with (go_at_fn E.g; refine hl4.mono ?_; rintro e w' ⟨rfl, I5⟩; replace I5 := Aside0.mk I5)
               go_roundg (5 - (s + 1))
               case measure => omega
               case rel => exact ⟨kx, s + 1, _, rfl, by go_num, by omega, Nat.le_refl _, by omega, by omega, I5, ⟨by rw [← HO.out, pi_go E.lt a b s i kx dk hs HK.out (by omega) h50, HD.out, show fixUp E.lt b kx dj = du from by unfold fixUp; rw [if_pos hbk, ← HU.out, shiftUp_stop E.lt b ju du (Or.inr HV4.out)]]⟩⟩
             ·have hjz : ¬ (ju : Int) < (b : Int) := by omega
              go_wp2
              go_roundg (5 - (s + 1))
              case measure => omega
              case rel => exact ⟨kx, s + 1, _, rfl, by go_num, by omega, Nat.le_refl _, by omega, by omega, I4, ⟨by rw [← HO.out, pi_go E.lt a b s i kx dk hs HK.out (by omega) h50, HD.out, show fixUp E.lt b kx dj = du from by unfold fixUp; rw [if_pos hbk, ← HU.out, shiftUp_stop E.lt b ju du (Or.inl hjb')]]⟩⟩
           ·have hbkz : ¬ (2 : Int) ≤ (b : Int) - (kx : Int) := by omega
            go_wp2_with (go_at_fn E.g; refine hl3.mono ?_; rintro e w' ⟨rfl, I7⟩; replace I7 := Aside0.mk I7)
            go_roundg (5 - (s + 1))
            case measure => omega
            case rel => exact ⟨kx, s + 1, _, rfl, by go_num, by omega, Nat.le_refl _, by omega, by omega, I7, ⟨by rw [← HO.out, pi_go E.lt a b s i kx dk hs HK.out (by omega) h50, HD.out, show fixUp E.lt b kx dj = dj from by unfold fixUp; rw [if_neg hbk]]⟩⟩
         ·have hj1z : ¬ (1 : Int) ≤ (j : Int) := by omega
          have HD : Aside0 (fixDown E.lt a kx (swp dk kx (kx - 1)) = dj) := ⟨by unfold fixDown; rw [if_pos hka, ← HDn.out, shiftDown_stop E.lt j dj (Or.inl (by omega))]⟩
          by_cases hbk : b - kx ≥ 2
          ·have hbkz : (2 : Int) ≤ (b : Int) - (kx : Int) := by omega
           go_wp2
           go_loopg [10] (b - (kx + 1)) (fun g4 vj wr4 => ∃ (ju : Nat) (du : Array α), vj = .int .i64 ju ∧ kx + 1 ≤ ju ∧ ju ≤ b ∧ b - ju ≤ g4 ∧ Aside0 (In E w wr4 du) ∧ Aside0 (shiftUp E.lt b ju du = shiftUp E.lt b (kx + 1) dj))
           case atStart => exact ⟨kx + 1, _, by go_num, Nat.le_refl _, by omega, Nat.le_refl _, I3, ⟨rfl⟩⟩
           case round =>
            obtain ⟨ju, du, rfl, hkj, hjb, hg4, I4, HU⟩ := hrel
            have c4 := I4.out.c0
            by_cases hjb' : ju < b
            ·have hjz : (ju : Int) < (b : Int) := by omega
             cases hlv4 : E.lt du[ju]! du[ju - 1]! with
             | true =>
              have HV4 := Aside0.mk hlv4
              clear hlv4
              have hl4 := I4.out.less hL (i := ju) (j := ju - 1) (x := (ju : Int)) (y := (ju : Int) - 1) (by omega) (by omega) (by omega) (by omega) HV4.out
              go_wp2_with (go_at_fn E.g; refine hl4.mono ?_; rintro e w' ⟨rfl, I5⟩; have c1 := I5.c1; obtain ⟨W3, hsw, I6⟩ := I5.swap hS (i := ju) (j := ju - 1) (x := (ju : Int)) (y := (ju : Int) - 1) (by omega) (by omega) (by omega) (by omega); replace I6 := Aside0.mk I6; clear I5)
              go_roundg (b - (ju + 1))
              case measure => omega
              case rel => exact ⟨ju + 1, swp du ju (ju - 1), by go_num, by omega, by omega, Nat.le_refl _, I6, ⟨by rw [← HU.out, shiftUp_go E.lt b ju du hjb' HV4.out]⟩⟩
             | false =>
              have HV4 := Aside0.mk hlv4
              clear hlv4
              have hl4 := I4.out.less hL (i := ju) (j := ju - 1) (x := (ju : Int)) (y := (ju : Int) - 1) (by omega) (by omega) (by omega) (by omega) HV4.out
              go_wp2_with (go_at_fn E.g; refine hl4.mono ?_; rintro e w' ⟨rfl, I5⟩; replace I5 := Aside0.mk I5)
              go_roundg (5 - (s + 1))
              case measure => omega
              case rel => exact ⟨kx, s + 1, _, rfl, by go_num, by omega, Nat.le_refl _, by omega, by omega, I5, ⟨by rw [← HO.out, pi_go E.lt a b s i kx dk hs HK.out (by omega) h50, HD.out, show fixUp E.lt b kx dj = du from by unfold fixUp; rw [if_pos hbk, ← HU.out, shiftUp_stop E.lt b ju du (Or.inr HV4.out)]]⟩⟩
            ·have hjz : ¬ (ju : Int) < (b : Int) := by omega
             go_wp2
             go_roundg (5 - (s + 1))
             case measure => omega
             case rel => exact ⟨kx, s + 1, _, rfl, by go_num, by omega, Nat.le_refl _, by omega, by omega, I4, ⟨by rw [← HO.out, pi_go E.lt a b s i kx dk hs HK.out (by omega) h50, HD.out, show fixUp E.lt b kx dj = du from by unfold fixUp; rw [if_pos hbk, ← HU.out, shiftUp_stop E.lt b ju du (Or.inl hjb')]]⟩⟩
          ·have hbkz : ¬ (2 : Int) ≤ (b : Int) - (kx : Int) := by omega
           go_wp2
           go_roundg (5 - (s + 1))
           case measure => omega
           case rel => exact ⟨kx, s + 1, _, rfl, by go_num, by omega, Nat.le_refl _, by omega, by omega, I3, ⟨by rw [← HO.out, pi_go E.lt a b s i kx dk hs HK.out (by omega) h50, HD.out, show fixUp E.lt b kx dj = dj from by unfold fixUp; rw [if_neg hbk]]⟩⟩
       ·have hkaz : ¬ (2 : Int) ≤ (kx : Int) - (a : Int) := by omega
        have HD : Aside0 (fixDown E.lt a kx (swp dk kx (kx - 1)) = (swp dk kx (kx - 1))) := ⟨by unfold fixDown; rw [if_neg hka]⟩
        by_cases hbk : b - kx ≥ 2
        ·have hbkz : (2 : Int) ≤ (b : Int) - (kx : Int) := by omega
         go_wp2_with (go_at_fn E.g; refine hl.mono ?_; rintro e w' ⟨rfl, I1⟩; have c1 := I1.c1; obtain ⟨W3, hsw, I2⟩ := I1.swap hS (i := kx) (j := kx - 1) (x := (kx : Int)) (y := (kx : Int) - 1) (by omega) (by omega) (by omega) (by omega); replace I2 := Aside0.mk I2; clear I1)
         go_loopg [10] (b - (kx + 1)) (fun g4 vj wr4 => ∃ (ju : Nat) (du : Array α), vj = .int .i64 ju ∧ kx + 1 ≤ ju ∧ ju ≤ b ∧ b - ju ≤ g4 ∧ Aside0 (In E w wr4 du) ∧ Aside0 (shiftUp E.lt b ju du = shiftUp E.lt b (kx + 1) (swp dk kx (kx - 1))))
         case atStart => exact ⟨kx + 1, _, by go_num, Nat.le_refl _, by omega, Nat.le_refl _, I2, ⟨rfl⟩⟩
         case round =>
          obtain ⟨ju, du, rfl, hkj, hjb, hg4, I4, HU⟩ := hrel
          have c4 := I4.out.c0
          by_cases hjb' : ju < b
          ·have hjz : (ju : Int) < (b : Int) := by omega
           cases hlv4 : E.lt du[ju]! du[ju - 1]! with
           | true =>
            have HV4 := Aside0.mk hlv4
            clear hlv4
            have hl4 := I4.out.less hL (i := ju) (j := ju - 1) (x := (ju : Int)) (y := (ju : Int) - 1) (by omega) (by omega) (by omega) (by omega) HV4.out
            go_wp2_with (go_at_fn E.g; refine hl4.mono ?_; rintro e w' ⟨rfl, I5⟩; have c1 := I5.c1; obtain ⟨W3, hsw, I6⟩ := I5.swap hS (i := ju) (j := ju - 1) (x := (ju : Int)) (y := (ju : Int) - 1) (by omega) (by omega) (by omega) (by omega); replace I6 := Aside0.mk I6; clear I5)
            go_roundg (b - (ju + 1))
            case measure => omega
            case rel => exact ⟨ju + 1, swp du ju (ju - 1), by go_num, by omega, by omega, Nat.le_refl _, I6, ⟨by rw [← HU.out, shiftUp_go E.lt b ju du hjb' HV4.out]⟩⟩
           | false =>
            have HV4 := Aside0.mk hlv4
            clear hlv4
            have hl4 := I4.out.less hL (i := ju) (j := ju - 1) (x := (ju : Int)) (y := (ju : Int) - 1) (by omega) (by omega) (by omega) (by omega) HV4.out
            go_wp2_with (go_at_fn E.g; refine hl4.mono ?_; rintro e w' ⟨rfl, I5⟩; replace I5 := Aside0.mk I5)
            go_roundg (5 - (s + 1))
            case measure => omega
            case rel => exact ⟨kx, s + 1, _, rfl, by go_num, by omega, Nat.le_refl _, by omega, by omega, I5, ⟨by rw [← HO.out, pi_go E.lt a b s i kx dk hs HK.out (by omega) h50, HD.out, show fixUp E.lt b kx (swp dk kx (kx - 1)) = du from by unfold fixUp; rw [if_pos hbk, ← HU.out, shiftUp_stop E.lt b ju du (Or.inr HV4.out)]]⟩⟩
          ·have hjz : ¬ (ju : Int) < (b : Int) := by omega
           go_wp2
           go_roundg (5 - (s + 1))
           case measure => omega
           case rel => exact ⟨kx, s + 1, _, rfl, by go_num, by omega, Nat.le_refl _, by omega, by omega, I4, ⟨by rw [← HO.out, pi_go E.lt a b s i kx dk hs HK.out (by omega) h50, HD.out, show fixUp E.lt b kx (swp dk kx (kx - 1)) = du from by unfold fixUp; rw [if_pos hbk, ← HU.out, shiftUp_stop E.lt b ju du (Or.inl hjb')]]⟩⟩
        ·exfalso; omega
    ·obtain rfl : kx = b := by omega
     have hkz : ¬ (kx : Int) < (kx : Int) := by omega
     go_wp2
     have hv : Sort.partialInsertionSort E.lt d a kx = (dk, true) := by
      unfold Sort.partialInsertionSort
      rw [← HO.out, pi_true E.lt a kx s i dk hs (by rw [← HSc.out, scanSorted_stop E.lt dk kx kx (Or.inl (by omega))])]
     rw [hv]
     go_ret
     exact ⟨rfl, I.out.st, I.out.fr⟩
  ·obtain rfl : s = 5 := by omega
   go_wp2
   have hv : Sort.partialInsertionSort E.lt d a b = (dk, false) := by
    unfold Sort.partialInsertionSort
    rw [← HO.out, pi_end]
   rw [hv]
   go_ret
   exact ⟨rfl, I.out.st, I.out.fr⟩
set_option maxHeartbeats 6400000 in
set_option maxRecDepth 100000 in
theorem l_partitionEqual (L : LaysGg.n32 P ρ) (E : SE P α) (hL : E.LessL) (hS : E.SwapL) (a b pivot : Nat) (d : Array α) (W : World) (h0 : St E W d) (hap : a ≤ pivot) (hpb : pivot < b) (hb : b ≤ E.size) :
  Calls P (ρ.f 32) #[.agg #[.func (.func E.g) #[] E.lb, .func (.func E.sf) #[] E.sb], .int .i64 a, .int .i64 b, .int .i64 pivot] W fun e w' => e = .returned (.int .i64 (Sort.partitionEqual E.lt d a b pivot).1) ∧ St E w' (Sort.partitionEqual E.lt d a b pivot).2 ∧ W.grownBy w' (some E.blk) := by
 have mixed := L.mixed
 have t0 := L.t0; have a0 := L.a0; have z0 := L.z0; have v0 := L.v0
 have t3 := L.t3; have a3 := L.a3; have z3 := L.z3; have v3 := L.v3
 have t4 := L.t4; have a4 := L.a4; have z4 := L.z4; have v4 := L.v4
 have t26 := L.t26; have a26 := L.a26; have z26 := L.z26; have v26 := L.v26
 have t37 := L.t37; have a37 := L.a37; have z37 := L.z37; have v37 := L.v37
 have t44 := L.t44; have a44 := L.a44; have z44 := L.z44; have v44 := L.v44
 have u44 := run_underlying L.t44
 have eg := E.eg
 have hsz := E.hsz
 have I0 := In.start h0 (ρ.t 44)
 obtain ⟨W1, hs0, I⟩ := I0.swap hS (i := a) (j := pivot) (x := (a : Int)) (y := (pivot : Int)) (by omega) (by omega) (by omega) (by omega)
 replace I := Aside0.mk I
 clear h0 I0
 go_enter L.f32, BodyGg.n32_ntmps ρ
 go_wp2
 go_loopw [9, 10] (fun vi vj wr => ∃ (i j : Nat) (dk : Array α), vi = .int .i64 i ∧ vj = .int .i64 j ∧ a < i ∧ i ≤ j + 1 ∧ j < b ∧ Aside0 (In E W wr dk) ∧ Aside0 (Sort.partEqLoop E.lt a i j dk = Sort.partEqLoop E.lt a (a + 1) (b - 1) (Sort.swp d a pivot))) (fun vi vj _ => (intOf vj).toNat + 1 - (intOf vi).toNat)
 case atStart => exact ⟨a + 1, b - 1, Sort.swp d a pivot, by go_num, by go_num, by omega, by omega, by omega, I, ⟨rfl⟩⟩
 case round =>
  clear hs0 I
  obtain ⟨i, j, dk, rfl, rfl, hai, hij, hjb, I, AE⟩ := hrel
  go_wp2
  go_loopw [9] (fun vi w1 => ∃ (i' : Nat), vi = .int .i64 i' ∧ i ≤ i' ∧ i' ≤ j + 1 ∧ Aside0 (In E W w1 dk) ∧ Aside0 (Sort.scanUp (fun x => !E.lt dk[a]! x) dk j i' = Sort.scanUp (fun x => !E.lt dk[a]! x) dk j i)) (fun vi _ => j + 1 - (intOf vi).toNat)
  case atStart => exact ⟨i, rfl, Nat.le_refl _, hij, I, ⟨rfl⟩⟩
  case round =>
   clear I
   obtain ⟨i', rfl, hii, hij', I, hsc⟩ := hrel
   have c0 := I.out.c0
   by_cases hle : i' ≤ j
   ·cases hlv : E.lt dk[a]! dk[i']! with
    | false =>
     have HV := Aside0.mk hlv
     clear hlv
     have hl := I.out.less hL (i := a) (j := i') (x := (a : Int)) (y := (i' : Int)) (by omega) (by omega) (by omega) (by omega) HV.out
     go_wp2_with (go_at_fn E.g; refine hl.mono ?_; rintro e w' ⟨rfl, I1⟩; replace I1 := Aside0.mk I1)
     go_roundw
     case rel => exact ⟨i' + 1, by go_num, by omega, by omega, I1, ⟨(scanUp_go (fun x => !E.lt dk[a]! x) dk j i' hle (by simp [HV.out])).symm.trans hsc.out⟩⟩
     case measure => simp [intOf]; omega
    | true =>
     have HV := Aside0.mk hlv
     clear hlv
     have hl := I.out.less hL (i := a) (j := i') (x := (a : Int)) (y := (i' : Int)) (by omega) (by omega) (by omega) (by omega) HV.out
     have hi2 : Aside0 (i' = Sort.scanUp (fun x => !E.lt dk[a]! x) dk j i) := ⟨(scanUp_end (fun x => !E.lt dk[a]! x) dk j i' (Or.inr (by simp [HV.out]))).symm.trans hsc.out⟩
     clear hsc
     go_wp2_with (go_at_fn E.g; refine hl.mono ?_; rintro e w' ⟨rfl, I1⟩; clear I; replace I1 := Aside0.mk I1; clear c0 hl HV)
     go_loopw [10] (fun vj w2 => ∃ (j' : Nat), vj = .int .i64 j' ∧ j' ≤ j ∧ i' ≤ j' + 1 ∧ Aside0 (In E W w2 dk) ∧ Aside0 (Sort.scanDown (fun x => E.lt dk[a]! x) dk i' j' = Sort.scanDown (fun x => E.lt dk[a]! x) dk i' j)) (fun vj _ => (intOf vj).toNat)
     case atStart => exact ⟨j, rfl, Nat.le_refl _, hij', I1, ⟨rfl⟩⟩
     case round =>
      clear I1
      obtain ⟨j', rfl, hjj, hij2, I, hsd⟩ := hrel
      have c0 := I.out.c0
      by_cases hle2 : i' ≤ j'
      ·cases hlv2 : E.lt dk[a]! dk[j']! with
       | true =>
        have HV := Aside0.mk hlv2
        clear hlv2
        have hl := I.out.less hL (i := a) (j := j') (x := (a : Int)) (y := (j' : Int)) (by omega) (by omega) (by omega) (by omega) HV.out
        go_wp2_with (go_at_fn E.g; refine hl.mono ?_; rintro e w' ⟨rfl, I1⟩; replace I1 := Aside0.mk I1)
        go_roundw
        case rel => exact ⟨j' - 1, by go_num, by omega, by omega, I1, ⟨(scanDown_go (fun x => E.lt dk[a]! x) dk i' j' hle2 (by omega) (by simp [HV.out])).symm.trans hsd.out⟩⟩
        case measure => simp [intOf]; omega
       | false =>
        have HV := Aside0.mk hlv2
        clear hlv2
        have hl := I.out.less hL (i := a) (j := j') (x := (a : Int)) (y := (j' : Int)) (by omega) (by omega) (by omega) (by omega) HV.out
        have hj2 : Aside0 (j' = Sort.scanDown (fun x => E.lt dk[a]! x) dk i' j) := ⟨(scanDown_end (fun x => E.lt dk[a]! x) dk i' j' (Or.inr (by simp [HV.out]))).symm.trans hsd.out⟩
        have hlt3 := scans_lt E.lt a i j dk (by omega) hi2.out hj2.out hle2
        clear hsd
        go_wp2_with (go_at_fn E.g; refine hl.mono ?_; rintro e w' ⟨rfl, I1⟩; have c1 := I1.c1; obtain ⟨W3, hs, I3⟩ := I1.swap hS (i := i') (j := j') (x := (i' : Int)) (y := (j' : Int)) (by omega) (by omega) (by omega) (by omega); replace I3 := Aside0.mk I3; clear I1)
        go_roundw
        case rel => exact ⟨i' + 1, j' - 1, Sort.swp dk i' j', by go_num, by go_num, by omega, by omega, by omega, I3, ⟨by rw [← AE.out]; exact (partEq_go E.lt a i j dk hi2.out hj2.out (by omega)).symm⟩⟩
        case measure => simp [intOf]; omega
      ·have hj2 : Aside0 (j' = Sort.scanDown (fun x => E.lt dk[a]! x) dk i' j) := ⟨(scanDown_end (fun x => E.lt dk[a]! x) dk i' j' (Or.inl hle2)).symm.trans hsd.out⟩
       clear hsd
       go_wp2
       go_ret
       have e := partEq_break E.lt a i j dk hi2.out hj2.out (by omega)
       have e1 : Sort.partitionEqual E.lt d a b pivot = (i', dk) := by unfold Sort.partitionEqual; rw [← AE.out, e]
       rw [e1]
       exact ⟨rfl, I.out.st, I.out.fr⟩
   ·have hi2 : Aside0 (i' = Sort.scanUp (fun x => !E.lt dk[a]! x) dk j i) := ⟨(scanUp_end (fun x => !E.lt dk[a]! x) dk j i' (Or.inl hle)).symm.trans hsc.out⟩
    clear hsc
    go_wp2
    go_loopw [10] (fun vj w2 => ∃ (j' : Nat), vj = .int .i64 j' ∧ j' ≤ j ∧ i' ≤ j' + 1 ∧ Aside0 (In E W w2 dk) ∧ Aside0 (Sort.scanDown (fun x => E.lt dk[a]! x) dk i' j' = Sort.scanDown (fun x => E.lt dk[a]! x) dk i' j)) (fun vj _ => (intOf vj).toNat)
    case atStart => exact ⟨j, rfl, Nat.le_refl _, hij', I, ⟨rfl⟩⟩
    case round =>
     clear I
     obtain ⟨j', rfl, hjj, hij2, I, hsd⟩ := hrel
     have c0 := I.out.c0
     by_cases hle2 : i' ≤ j'
     ·exfalso; omega
     ·have hj2 : Aside0 (j' = Sort.scanDown (fun x => E.lt dk[a]! x) dk i' j) := ⟨(scanDown_end (fun x => E.lt dk[a]! x) dk i' j' (Or.inl hle2)).symm.trans hsd.out⟩
      clear hsd
      go_wp2
      go_ret
      have e := partEq_break E.lt a i j dk hi2.out hj2.out (by omega)
      have e1 : Sort.partitionEqual E.lt d a b pivot = (i', dk) := by unfold Sort.partitionEqual; rw [← AE.out, e]
      rw [e1]
      exact ⟨rfl, I.out.st, I.out.fr⟩
end Go.Proofs.Ytkdendlgaaimbaa.X
namespace Go.Proofs.Ytkdendlgaaimbaa.X
open Go.Shelf Go.RowKit Go.Lib Go.Sort Go.Proofs.YtkdendlgaaimbaaW.PrintWords
set_option linter.unusedVariables false
set_option linter.unusedSimpArgs false
variable {P : Program} {ρ : Ren} {α : Type} [Inhabited α]
set_option maxHeartbeats 12800000 in
set_option maxRecDepth 100000 in
theorem l_partition (L : LaysGg.n33 P ρ) (E : SE P α) (hL : E.LessL) (hS : E.SwapL) (a b pivot : Nat) (d : Array α) (W : World) (h0 : St E W d) (hap : a ≤ pivot) (hpb : pivot < b) (hb : b ≤ E.size) :
  Calls P (ρ.f 33) #[.agg #[.func (.func E.g) #[] E.lb, .func (.func E.sf) #[] E.sb], .int .i64 a, .int .i64 b, .int .i64 pivot] W fun e w' => e = .returned (.tuple #[.int .i64 (Sort.partition E.lt d a b pivot).1, .bool (Sort.partition E.lt d a b pivot).2.1]) ∧ St E w' (Sort.partition E.lt d a b pivot).2.2 ∧ W.grownBy w' (some E.blk) := by
 have mixed := L.mixed
 have t0 := L.t0; have a0 := L.a0; have z0 := L.z0; have v0 := L.v0
 have t3 := L.t3; have a3 := L.a3; have z3 := L.z3; have v3 := L.v3
 have t4 := L.t4; have a4 := L.a4; have z4 := L.z4; have v4 := L.v4
 have t26 := L.t26; have a26 := L.a26; have z26 := L.z26; have v26 := L.v26
 have t37 := L.t37; have a37 := L.a37; have z37 := L.z37; have v37 := L.v37
 have t44 := L.t44; have a44 := L.a44; have z44 := L.z44; have v44 := L.v44
 have u44 := run_underlying L.t44
 have eg := E.eg
 have hsz := E.hsz
 have I0 := In.start h0 (ρ.t 44)
 obtain ⟨W1, hs0, I⟩ := I0.swap hS (i := a) (j := pivot) (x := (a : Int)) (y := (pivot : Int)) (by omega) (by omega) (by omega) (by omega)
 replace I := Aside0.mk I
 clear h0 I0
 obtain ⟨i, hi⟩ : ∃ i : Nat, i = a + 1 := ⟨_, rfl⟩
 obtain ⟨j, hj⟩ : ∃ j : Nat, j = b - 1 := ⟨_, rfl⟩
 obtain ⟨dk, hdk⟩ : ∃ dk : Array α, dk = Sort.swp d a pivot := ⟨_, rfl⟩
 rw [← hdk] at I
 have hai : a < i := by omega
 have hij : i ≤ j + 1 := by omega
 have hjb : j < b := by omega
 have Hi := Aside0.mk hi
 have Hj := Aside0.mk hj
 have Hdk := Aside0.mk hdk
 clear hi hj hdk
 go_enter L.f33, BodyGg.n33_ntmps ρ
 go_wp2
 rw [show ((a : Int) + 1) = (i : Int) by have := Hi.out; omega, show ((b : Int) - 1) = (j : Int) by have := Hj.out; omega]
 go_loopw [10] (fun vi w1 => ∃ (i' : Nat), vi = .int .i64 i' ∧ i ≤ i' ∧ i' ≤ j + 1 ∧ Aside0 (In E W w1 dk) ∧ Aside0 (Sort.scanUp (fun x => E.lt x dk[a]!) dk j i' = Sort.scanUp (fun x => E.lt x dk[a]!) dk j i)) (fun vi _ => j + 1 - (intOf vi).toNat)
 case atStart => exact ⟨i, rfl, Nat.le_refl _, hij, I, ⟨rfl⟩⟩
 case round =>
  clear I
  obtain ⟨i', rfl, hii, hij', I, hsc⟩ := hrel
  have c0 := I.out.c0
  by_cases hle : i' ≤ j
  ·cases hlv : E.lt dk[i']! dk[a]! with
   | true =>
    have HV := Aside0.mk hlv
    clear hlv
    have hl := I.out.less hL (i := i') (j := a) (x := (i' : Int)) (y := (a : Int)) (by omega) (by omega) (by omega) (by omega) HV.out
    go_wp2_with (go_at_fn E.g; refine hl.mono ?_; rintro e w' ⟨rfl, I1⟩; replace I1 := Aside0.mk I1)
    go_roundw
    case rel => exact ⟨i' + 1, by go_num, by omega, by omega, I1, ⟨(scanUp_go (fun x => E.lt x dk[a]!) dk j i' hle (by simp [HV.out])).symm.trans hsc.out⟩⟩
    case measure => simp [intOf]; omega
   | false =>
    have HV := Aside0.mk hlv
    clear hlv
    have hl := I.out.less hL (i := i') (j := a) (x := (i' : Int)) (y := (a : Int)) (by omega) (by omega) (by omega) (by omega) HV.out
    have hi2 : Aside0 (i' = Sort.scanUp (fun x => E.lt x dk[a]!) dk j i) := ⟨(scanUp_end (fun x => E.lt x dk[a]!) dk j i' (Or.inr (by simp [HV.out]))).symm.trans hsc.out⟩
    clear hsc
    go_wp2_with (go_at_fn E.g; refine hl.mono ?_; rintro e w' ⟨rfl, I1⟩; clear I; replace I1 := Aside0.mk I1; clear c0 hl HV)
    go_loopw [11] (fun vj w2 => ∃ (j' : Nat), vj = .int .i64 j' ∧ j' ≤ j ∧ i' ≤ j' + 1 ∧ Aside0 (In E W w2 dk) ∧ Aside0 (Sort.scanDown (fun x => !E.lt x dk[a]!) dk i' j' = Sort.scanDown (fun x => !E.lt x dk[a]!) dk i' j)) (fun vj _ => (intOf vj).toNat)
    case atStart => exact ⟨j, rfl, Nat.le_refl _, hij', I1, ⟨rfl⟩⟩
    case round =>
     clear I1
     obtain ⟨j', rfl, hjj, hij2, I, hsd⟩ := hrel
     have c0 := I.out.c0
     by_cases hle2 : i' ≤ j'
     ·cases hlv2 : E.lt dk[j']! dk[a]! with
      | false =>
       have HV := Aside0.mk hlv2
       clear hlv2
       have hl := I.out.less hL (i := j') (j := a) (x := (j' : Int)) (y := (a : Int)) (by omega) (by omega) (by omega) (by omega) HV.out
       go_wp2_with (go_at_fn E.g; refine hl.mono ?_; rintro e w' ⟨rfl, I1⟩; replace I1 := Aside0.mk I1)
       go_roundw
       case rel => exact ⟨j' - 1, by go_num, by omega, by omega, I1, ⟨(scanDown_go (fun x => !E.lt x dk[a]!) dk i' j' hle2 (by omega) (by simp [HV.out])).symm.trans hsd.out⟩⟩
       case measure => simp [intOf]; omega
      | true =>
       have HV := Aside0.mk hlv2
       clear hlv2
       have hl := I.out.less hL (i := j') (j := a) (x := (j' : Int)) (y := (a : Int)) (by omega) (by omega) (by omega) (by omega) HV.out
       have hj2 : Aside0 (j' = Sort.scanDown (fun x => !E.lt x dk[a]!) dk i' j) := ⟨(scanDown_end (fun x => !E.lt x dk[a]!) dk i' j' (Or.inr (by simp [HV.out]))).symm.trans hsd.out⟩
       have hlt3 := part_scans_lt E.lt a i j dk (by omega) hi2.out hj2.out hle2
       clear hsd
       go_wp2_with (go_at_fn E.g; refine hl.mono ?_; rintro e w' ⟨rfl, I1⟩; have c1 := I1.c1; obtain ⟨W3, hs, I3⟩ := I1.swap hS (i := i') (j := j') (x := (i' : Int)) (y := (j' : Int)) (by omega) (by omega) (by omega) (by omega); replace I3 := Aside0.mk I3; clear I1)
       rw [decide_eq_false (show ¬ j' < i' by omega)]
       obtain ⟨I0, hI0⟩ : ∃ I0 : Nat, I0 = i' + 1 := ⟨_, rfl⟩
       obtain ⟨J0, hJ0⟩ : ∃ J0 : Nat, J0 = j' - 1 := ⟨_, rfl⟩
       obtain ⟨D0, hD0⟩ : ∃ D0 : Array α, D0 = Sort.swp dk i' j' := ⟨_, rfl⟩
       have PF : Aside0 (Sort.partition E.lt d a b pivot = ((Sort.partLoop E.lt a I0 J0 D0).1, false, Sort.swp (Sort.partLoop E.lt a I0 J0 D0).2 (Sort.partLoop E.lt a I0 J0 D0).1 a)) := ⟨by
        rw [hI0, hJ0, hD0]; exact part_first_go E.lt d a b pivot Hi.out Hj.out Hdk.out hi2.out hj2.out (by omega)⟩
       go_loopw [10, 11] (fun vi vj wr => ∃ (i j : Nat) (dk : Array α), vi = .int .i64 i ∧ vj = .int .i64 j ∧ a < i ∧ i ≤ j + 1 ∧ j < b ∧ Aside0 (In E W wr dk) ∧ Aside0 (Sort.partLoop E.lt a i j dk = Sort.partLoop E.lt a I0 J0 D0)) (fun vi vj _ => (intOf vj).toNat + 1 - (intOf vi).toNat)
       case atStart => exact ⟨i' + 1, j' - 1, Sort.swp dk i' j', by go_num, by go_num, by omega, by omega, by omega, I3, ⟨by rw [hI0, hJ0, hD0]⟩⟩
       case round =>
        clear hI0 hJ0 hD0 hs I3 c1 I hj2 hi2 hlt3 hl c0 HV Hi Hj Hdk hii hij' hle hjj hij2 hle2 hai hij hjb
        obtain ⟨i, j, dk, rfl, rfl, hai, hij, hjb, I, AE⟩ := hrel
        go_wp2
        go_loopw [10] (fun vi w1 => ∃ (i' : Nat), vi = .int .i64 i' ∧ i ≤ i' ∧ i' ≤ j + 1 ∧ Aside0 (In E W w1 dk) ∧ Aside0 (Sort.scanUp (fun x => E.lt x dk[a]!) dk j i' = Sort.scanUp (fun x => E.lt x dk[a]!) dk j i)) (fun vi _ => j + 1 - (intOf vi).toNat)
        case atStart => exact ⟨i, rfl, Nat.le_refl _, hij, I, ⟨rfl⟩⟩
        case round =>
         clear I
         obtain ⟨i', rfl, hii, hij', I, hsc⟩ := hrel
         have c0 := I.out.c0
         by_cases hle : i' ≤ j
         ·cases hlv : E.lt dk[i']! dk[a]! with
          | true =>
           have HV := Aside0.mk hlv
           clear hlv
           have hl := I.out.less hL (i := i') (j := a) (x := (i' : Int)) (y := (a : Int)) (by omega) (by omega) (by omega) (by omega) HV.out
           go_wp2_with (go_at_fn E.g; refine hl.mono ?_; rintro e w' ⟨rfl, I1⟩; replace I1 := Aside0.mk I1)
           go_roundw
           case rel => exact ⟨i' + 1, by go_num, by omega, by omega, I1, ⟨(scanUp_go (fun x => E.lt x dk[a]!) dk j i' hle (by simp [HV.out])).symm.trans hsc.out⟩⟩
           case measure => simp [intOf]; omega
          | false =>
           have HV := Aside0.mk hlv
           clear hlv
           have hl := I.out.less hL (i := i') (j := a) (x := (i' : Int)) (y := (a : Int)) (by omega) (by omega) (by omega) (by omega) HV.out
           have hi2 : Aside0 (i' = Sort.scanUp (fun x => E.lt x dk[a]!) dk j i) := ⟨(scanUp_end (fun x => E.lt x dk[a]!) dk j i' (Or.inr (by simp [HV.out]))).symm.trans hsc.out⟩
           clear hsc
           go_wp2_with (go_at_fn E.g; refine hl.mono ?_; rintro e w' ⟨rfl, I1⟩; clear I; replace I1 := Aside0.mk I1; clear c0 hl HV)
           go_loopw [11] (fun vj w2 => ∃ (j' : Nat), vj = .int .i64 j' ∧ j' ≤ j ∧ i' ≤ j' + 1 ∧ Aside0 (In E W w2 dk) ∧ Aside0 (Sort.scanDown (fun x => !E.lt x dk[a]!) dk i' j' = Sort.scanDown (fun x => !E.lt x dk[a]!) dk i' j)) (fun vj _ => (intOf vj).toNat)
           case atStart => exact ⟨j, rfl, Nat.le_refl _, hij', I1, ⟨rfl⟩⟩
           case round =>
            clear I1
            obtain ⟨j', rfl, hjj, hij2, I, hsd⟩ := hrel
            have c0 := I.out.c0
            by_cases hle2 : i' ≤ j'
            ·cases hlv2 : E.lt dk[j']! dk[a]! with
             | false =>
              have HV := Aside0.mk hlv2
              clear hlv2
              have hl := I.out.less hL (i := j') (j := a) (x := (j' : Int)) (y := (a : Int)) (by omega) (by omega) (by omega) (by omega) HV.out
              go_wp2_with (go_at_fn E.g; refine hl.mono ?_; rintro e w' ⟨rfl, I1⟩; replace I1 := Aside0.mk I1)
              go_roundw
              case rel => exact ⟨j' - 1, by go_num, by omega, by omega, I1, ⟨(scanDown_go (fun x => !E.lt x dk[a]!) dk i' j' hle2 (by omega) (by simp [HV.out])).symm.trans hsd.out⟩⟩
              case measure => simp [intOf]; omega
             | true =>
              have HV := Aside0.mk hlv2
              clear hlv2
              have hl := I.out.less hL (i := j') (j := a) (x := (j' : Int)) (y := (a : Int)) (by omega) (by omega) (by omega) (by omega) HV.out
              have hj2 : Aside0 (j' = Sort.scanDown (fun x => !E.lt x dk[a]!) dk i' j) := ⟨(scanDown_end (fun x => !E.lt x dk[a]!) dk i' j' (Or.inr (by simp [HV.out]))).symm.trans hsd.out⟩
              have hlt3 := part_scans_lt E.lt a i j dk (by omega) hi2.out hj2.out hle2
              clear hsd
              go_wp2_with (go_at_fn E.g; refine hl.mono ?_; rintro e w' ⟨rfl, I1⟩; have c1 := I1.c1; obtain ⟨W3, hs, I3⟩ := I1.swap hS (i := i') (j := j') (x := (i' : Int)) (y := (j' : Int)) (by omega) (by omega) (by omega) (by omega); replace I3 := Aside0.mk I3; clear I1)
              go_roundw
              case rel => exact ⟨i' + 1, j' - 1, Sort.swp dk i' j', by go_num, by go_num, by omega, by omega, by omega, I3, ⟨by rw [← AE.out]; exact (part_go E.lt a i j dk hi2.out hj2.out (by omega)).symm⟩⟩
              case measure => simp [intOf]; omega
            ·have hj2 : Aside0 (j' = Sort.scanDown (fun x => !E.lt x dk[a]!) dk i' j) := ⟨(scanDown_end (fun x => !E.lt x dk[a]!) dk i' j' (Or.inl hle2)).symm.trans hsd.out⟩
             clear hsd
             obtain ⟨W3, hs, I3⟩ := I.out.swap hS (i := j') (j := a) (x := (j' : Int)) (y := (a : Int)) (by omega) (by omega) (by omega) (by omega)
             have c1 := I.out.c1
             replace I3 := Aside0.mk I3
             go_wp2
             go_ret2
             have e1 : Sort.partition E.lt d a b pivot = (j', false, swp dk j' a) := by rw [PF.out, ← AE.out, part_break E.lt a i j dk hi2.out hj2.out (by omega)]
             rw [e1]
             exact ⟨rfl, I3.out.st, I3.out.fr⟩
         ·have hi2 : Aside0 (i' = Sort.scanUp (fun x => E.lt x dk[a]!) dk j i) := ⟨(scanUp_end (fun x => E.lt x dk[a]!) dk j i' (Or.inl hle)).symm.trans hsc.out⟩
          clear hsc
          go_wp2
          go_loopw [11] (fun vj w2 => ∃ (j' : Nat), vj = .int .i64 j' ∧ j' ≤ j ∧ i' ≤ j' + 1 ∧ Aside0 (In E W w2 dk) ∧ Aside0 (Sort.scanDown (fun x => !E.lt x dk[a]!) dk i' j' = Sort.scanDown (fun x => !E.lt x dk[a]!) dk i' j)) (fun vj _ => (intOf vj).toNat)
          case atStart => exact ⟨j, rfl, Nat.le_refl _, hij', I, ⟨rfl⟩⟩
          case round =>
           clear I
           obtain ⟨j', rfl, hjj, hij2, I, hsd⟩ := hrel
           have c0 := I.out.c0
           by_cases hle2 : i' ≤ j'
           ·exfalso; omega
           ·have hj2 : Aside0 (j' = Sort.scanDown (fun x => !E.lt x dk[a]!) dk i' j) := ⟨(scanDown_end (fun x => !E.lt x dk[a]!) dk i' j' (Or.inl hle2)).symm.trans hsd.out⟩
            clear hsd
            obtain ⟨W3, hs, I3⟩ := I.out.swap hS (i := j') (j := a) (x := (j' : Int)) (y := (a : Int)) (by omega) (by omega) (by omega) (by omega)
            have c1 := I.out.c1
            replace I3 := Aside0.mk I3
            go_wp2
            go_ret2
            have e1 : Sort.partition E.lt d a b pivot = (j', false, swp dk j' a) := by rw [PF.out, ← AE.out, part_break E.lt a i j dk hi2.out hj2.out (by omega)]
            rw [e1]
            exact ⟨rfl, I3.out.st, I3.out.fr⟩
     ·have hj2 : Aside0 (j' = Sort.scanDown (fun x => !E.lt x dk[a]!) dk i' j) := ⟨(scanDown_end (fun x => !E.lt x dk[a]!) dk i' j' (Or.inl hle2)).symm.trans hsd.out⟩
      clear hsd
      obtain ⟨W3, hs, I3⟩ := I.out.swap hS (i := j') (j := a) (x := (j' : Int)) (y := (a : Int)) (by omega) (by omega) (by omega) (by omega)
      have c1 := I.out.c1
      replace I3 := Aside0.mk I3
      go_wp2
      go_ret2
      have e1 : Sort.partition E.lt d a b pivot = (j', true, swp dk j' a) := part_first_break E.lt d a b pivot Hi.out Hj.out Hdk.out hi2.out hj2.out (by omega)
      rw [e1]
      exact ⟨rfl, I3.out.st, I3.out.fr⟩
  ·have hi2 : Aside0 (i' = Sort.scanUp (fun x => E.lt x dk[a]!) dk j i) := ⟨(scanUp_end (fun x => E.lt x dk[a]!) dk j i' (Or.inl hle)).symm.trans hsc.out⟩
   clear hsc
   go_wp2
   go_loopw [11] (fun vj w2 => ∃ (j' : Nat), vj = .int .i64 j' ∧ j' ≤ j ∧ i' ≤ j' + 1 ∧ Aside0 (In E W w2 dk) ∧ Aside0 (Sort.scanDown (fun x => !E.lt x dk[a]!) dk i' j' = Sort.scanDown (fun x => !E.lt x dk[a]!) dk i' j)) (fun vj _ => (intOf vj).toNat)
   case atStart => exact ⟨j, rfl, Nat.le_refl _, hij', I, ⟨rfl⟩⟩
   case round =>
    clear I
    obtain ⟨j', rfl, hjj, hij2, I, hsd⟩ := hrel
    have c0 := I.out.c0
    by_cases hle2 : i' ≤ j'
    ·exfalso; omega
    ·have hj2 : Aside0 (j' = Sort.scanDown (fun x => !E.lt x dk[a]!) dk i' j) := ⟨(scanDown_end (fun x => !E.lt x dk[a]!) dk i' j' (Or.inl hle2)).symm.trans hsd.out⟩
     clear hsd
     obtain ⟨W3, hs, I3⟩ := I.out.swap hS (i := j') (j := a) (x := (j' : Int)) (y := (a : Int)) (by omega) (by omega) (by omega) (by omega)
     have c1 := I.out.c1
     replace I3 := Aside0.mk I3
     go_wp2
     go_ret2
     have e1 : Sort.partition E.lt d a b pivot = (j', true, swp dk j' a) := part_first_break E.lt d a b pivot Hi.out Hj.out Hdk.out hi2.out hj2.out (by omega)
     rw [e1]
     exact ⟨rfl, I3.out.st, I3.out.fr⟩
end Go.Proofs.Ytkdendlgaaimbaa.X
