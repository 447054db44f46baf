/- A sort whose 'less' may lay blocks: the partition. Over any program that bears the library's bodies. Conditions: fewer than 2^62 elements. -/
import Derived.Test.YtbbkimgadohdkaaXSrtA
import Derived.Sort.WalkC4
import Derived.Deep.LoopGhost
namespace Go.Proofs.Ytbbkimgadohdkaa.X
open Go.Shelf Go.RowKit Go.Lib Go.Sort Go.Proofs.YtbbkimgadohdkaaW.PrintWords
set_option linter.unusedVariables false
set_option linter.unusedSimpArgs false
variable {P : Program} {ρ : Ren} {α : Type} [Inhabited α]

set_option maxHeartbeats 12800000 in
set_option maxRecDepth 100000 in
theorem l_partition (L : LaysGg.n33 P ρ) (E : SE P α) (hL : E.LessL) (hS : E.SwapL) (a b pivot : Nat) (d : Array α) (W : World) (h0 : St E W d) (hap : a ≤ pivot) (hpb : pivot < b) (hb : b ≤ E.size) :
    Calls P (ρ.f 33) #[.agg #[.func (.func E.g) #[] E.lb, .func (.func E.sf) #[] E.sb], .int .i64 a, .int .i64 b, .int .i64 pivot] W fun e w' => e = .returned (.tuple #[.int .i64 (Sort.partition E.lt d a b pivot).1, .bool (Sort.partition E.lt d a b pivot).2.1]) ∧ St E w' (Sort.partition E.lt d a b pivot).2.2 ∧ W.grownBy w' (some E.blk) := by
  have mixed := L.mixed
  have t0 := L.t0; have a0 := L.a0; have z0 := L.z0; have v0 := L.v0
  have t3 := L.t3; have a3 := L.a3; have z3 := L.z3; have v3 := L.v3
  have t4 := L.t4; have a4 := L.a4; have z4 := L.z4; have v4 := L.v4
  have t26 := L.t26; have a26 := L.a26; have z26 := L.z26; have v26 := L.v26
  have t37 := L.t37; have a37 := L.a37; have z37 := L.z37; have v37 := L.v37
  have t44 := L.t44; have a44 := L.a44; have z44 := L.z44; have v44 := L.v44
  have u44 := run_underlying L.t44
  have eg := E.eg
  have hsz := E.hsz
  have I0 := In.start h0 (ρ.t 44)
  obtain ⟨W1, hs0, I⟩ := I0.swap hS (i := a) (j := pivot) (x := (a : Int)) (y := (pivot : Int)) (by omega) (by omega) (by omega) (by omega)
  replace I := Aside0.mk I
  clear h0 I0
  obtain ⟨i, hi⟩ : ∃ i : Nat, i = a + 1 := ⟨_, rfl⟩
  obtain ⟨j, hj⟩ : ∃ j : Nat, j = b - 1 := ⟨_, rfl⟩
  obtain ⟨dk, hdk⟩ : ∃ dk : Array α, dk = Sort.swp d a pivot := ⟨_, rfl⟩
  rw [← hdk] at I
  have hai : a < i := by omega
  have hij : i ≤ j + 1 := by omega
  have hjb : j < b := by omega
  have Hi := Aside0.mk hi
  have Hj := Aside0.mk hj
  have Hdk := Aside0.mk hdk
  clear hi hj hdk
  go_enter L.f33, BodyGg.n33_ntmps ρ
  go_wp2
  rw [show ((a : Int) + 1) = (i : Int) by have := Hi.out; omega, show ((b : Int) - 1) = (j : Int) by have := Hj.out; omega]
  go_loopw [10] (fun vi w1 => ∃ (i' : Nat), vi = .int .i64 i' ∧ i ≤ i' ∧ i' ≤ j + 1 ∧ Aside0 (In E W w1 dk) ∧ Aside0 (Sort.scanUp (fun x => E.lt x dk[a]!) dk j i' = Sort.scanUp (fun x => E.lt x dk[a]!) dk j i)) (fun vi _ => j + 1 - (intOf vi).toNat)
  case atStart => exact ⟨i, rfl, Nat.le_refl _, hij, I, ⟨rfl⟩⟩
  case round =>
    clear I
    obtain ⟨i', rfl, hii, hij', I, hsc⟩ := hrel
    have c0 := I.out.c0
    by_cases hle : i' ≤ j
    · cases hlv : E.lt dk[i']! dk[a]! with
      | true =>
        have HV := Aside0.mk hlv
        clear hlv
        have hl := I.out.less hL (i := i') (j := a) (x := (i' : Int)) (y := (a : Int)) (by omega) (by omega) (by omega) (by omega) HV.out
        go_wp2_with (go_at_fn E.g; refine hl.mono ?_; rintro e w' ⟨rfl, I1⟩; replace I1 := Aside0.mk I1)
        go_roundw
        case rel => exact ⟨i' + 1, by go_num, by omega, by omega, I1, ⟨(scanUp_go (fun x => E.lt x dk[a]!) dk j i' hle (by simp [HV.out])).symm.trans hsc.out⟩⟩
        case measure => simp [intOf]; omega
      | false =>
        have HV := Aside0.mk hlv
        clear hlv
        have hl := I.out.less hL (i := i') (j := a) (x := (i' : Int)) (y := (a : Int)) (by omega) (by omega) (by omega) (by omega) HV.out
        have hi2 : Aside0 (i' = Sort.scanUp (fun x => E.lt x dk[a]!) dk j i) := ⟨(scanUp_end (fun x => E.lt x dk[a]!) dk j i' (Or.inr (by simp [HV.out]))).symm.trans hsc.out⟩
        clear hsc
        go_wp2_with (go_at_fn E.g; refine hl.mono ?_; rintro e w' ⟨rfl, I1⟩; clear I; replace I1 := Aside0.mk I1; clear c0 hl HV)
        go_loopw [11] (fun vj w2 => ∃ (j' : Nat), vj = .int .i64 j' ∧ j' ≤ j ∧ i' ≤ j' + 1 ∧ Aside0 (In E W w2 dk) ∧ Aside0 (Sort.scanDown (fun x => !E.lt x dk[a]!) dk i' j' = Sort.scanDown (fun x => !E.lt x dk[a]!) dk i' j)) (fun vj _ => (intOf vj).toNat)
        case atStart => exact ⟨j, rfl, Nat.le_refl _, hij', I1, ⟨rfl⟩⟩
        case round =>
          clear I1
          obtain ⟨j', rfl, hjj, hij2, I, hsd⟩ := hrel
          have c0 := I.out.c0
          by_cases hle2 : i' ≤ j'
          · cases hlv2 : E.lt dk[j']! dk[a]! with
            | false =>
              have HV := Aside0.mk hlv2
              clear hlv2
              have hl := I.out.less hL (i := j') (j := a) (x := (j' : Int)) (y := (a : Int)) (by omega) (by omega) (by omega) (by omega) HV.out
              go_wp2_with (go_at_fn E.g; refine hl.mono ?_; rintro e w' ⟨rfl, I1⟩; replace I1 := Aside0.mk I1)
              go_roundw
              case rel => exact ⟨j' - 1, by go_num, by omega, by omega, I1, ⟨(scanDown_go (fun x => !E.lt x dk[a]!) dk i' j' hle2 (by omega) (by simp [HV.out])).symm.trans hsd.out⟩⟩
              case measure => simp [intOf]; omega
            | true =>
              have HV := Aside0.mk hlv2
              clear hlv2
              have hl := I.out.less hL (i := j') (j := a) (x := (j' : Int)) (y := (a : Int)) (by omega) (by omega) (by omega) (by omega) HV.out
              have hj2 : Aside0 (j' = Sort.scanDown (fun x => !E.lt x dk[a]!) dk i' j) := ⟨(scanDown_end (fun x => !E.lt x dk[a]!) dk i' j' (Or.inr (by simp [HV.out]))).symm.trans hsd.out⟩
              have hlt3 := part_scans_lt E.lt a i j dk (by omega) hi2.out hj2.out hle2
              clear hsd
              go_wp2_with (go_at_fn E.g; refine hl.mono ?_; rintro e w' ⟨rfl, I1⟩; have c1 := I1.c1; obtain ⟨W3, hs, I3⟩ := I1.swap hS (i := i') (j := j') (x := (i' : Int)) (y := (j' : Int)) (by omega) (by omega) (by omega) (by omega); replace I3 := Aside0.mk I3; clear I1)
              rw [decide_eq_false (show ¬ j' < i' by omega)]
              obtain ⟨I0, hI0⟩ : ∃ I0 : Nat, I0 = i' + 1 := ⟨_, rfl⟩
              obtain ⟨J0, hJ0⟩ : ∃ J0 : Nat, J0 = j' - 1 := ⟨_, rfl⟩
              obtain ⟨D0, hD0⟩ : ∃ D0 : Array α, D0 = Sort.swp dk i' j' := ⟨_, rfl⟩
              have PF : Aside0 (Sort.partition E.lt d a b pivot = ((Sort.partLoop E.lt a I0 J0 D0).1, false, Sort.swp (Sort.partLoop E.lt a I0 J0 D0).2 (Sort.partLoop E.lt a I0 J0 D0).1 a)) := ⟨by
                rw [hI0, hJ0, hD0]; exact part_first_go E.lt d a b pivot Hi.out Hj.out Hdk.out hi2.out hj2.out (by omega)⟩
              go_loopw [10, 11] (fun vi vj wr => ∃ (i j : Nat) (dk : Array α), vi = .int .i64 i ∧ vj = .int .i64 j ∧ a < i ∧ i ≤ j + 1 ∧ j < b ∧ Aside0 (In E W wr dk) ∧ Aside0 (Sort.partLoop E.lt a i j dk = Sort.partLoop E.lt a I0 J0 D0)) (fun vi vj _ => (intOf vj).toNat + 1 - (intOf vi).toNat)
              case atStart => exact ⟨i' + 1, j' - 1, Sort.swp dk i' j', by go_num, by go_num, by omega, by omega, by omega, I3, ⟨by rw [hI0, hJ0, hD0]⟩⟩
              case round =>
                clear hI0 hJ0 hD0 hs I3 c1 I hj2 hi2 hlt3 hl c0 HV Hi Hj Hdk hii hij' hle hjj hij2 hle2 hai hij hjb
                obtain ⟨i, j, dk, rfl, rfl, hai, hij, hjb, I, AE⟩ := hrel
                go_wp2
                go_loopw [10] (fun vi w1 => ∃ (i' : Nat), vi = .int .i64 i' ∧ i ≤ i' ∧ i' ≤ j + 1 ∧ Aside0 (In E W w1 dk) ∧ Aside0 (Sort.scanUp (fun x => E.lt x dk[a]!) dk j i' = Sort.scanUp (fun x => E.lt x dk[a]!) dk j i)) (fun vi _ => j + 1 - (intOf vi).toNat)
                case atStart => exact ⟨i, rfl, Nat.le_refl _, hij, I, ⟨rfl⟩⟩
                case round =>
                  clear I
                  obtain ⟨i', rfl, hii, hij', I, hsc⟩ := hrel
                  have c0 := I.out.c0
                  by_cases hle : i' ≤ j
                  · cases hlv : E.lt dk[i']! dk[a]! with
                    | true =>
                      have HV := Aside0.mk hlv
                      clear hlv
                      have hl := I.out.less hL (i := i') (j := a) (x := (i' : Int)) (y := (a : Int)) (by omega) (by omega) (by omega) (by omega) HV.out
                      go_wp2_with (go_at_fn E.g; refine hl.mono ?_; rintro e w' ⟨rfl, I1⟩; replace I1 := Aside0.mk I1)
                      go_roundw
                      case rel => exact ⟨i' + 1, by go_num, by omega, by omega, I1, ⟨(scanUp_go (fun x => E.lt x dk[a]!) dk j i' hle (by simp [HV.out])).symm.trans hsc.out⟩⟩
                      case measure => simp [intOf]; omega
                    | false =>
                      have HV := Aside0.mk hlv
                      clear hlv
                      have hl := I.out.less hL (i := i') (j := a) (x := (i' : Int)) (y := (a : Int)) (by omega) (by omega) (by omega) (by omega) HV.out
                      have hi2 : Aside0 (i' = Sort.scanUp (fun x => E.lt x dk[a]!) dk j i) := ⟨(scanUp_end (fun x => E.lt x dk[a]!) dk j i' (Or.inr (by simp [HV.out]))).symm.trans hsc.out⟩
                      clear hsc
                      go_wp2_with (go_at_fn E.g; refine hl.mono ?_; rintro e w' ⟨rfl, I1⟩; clear I; replace I1 := Aside0.mk I1; clear c0 hl HV)
                      go_loopw [11] (fun vj w2 => ∃ (j' : Nat), vj = .int .i64 j' ∧ j' ≤ j ∧ i' ≤ j' + 1 ∧ Aside0 (In E W w2 dk) ∧ Aside0 (Sort.scanDown (fun x => !E.lt x dk[a]!) dk i' j' = Sort.scanDown (fun x => !E.lt x dk[a]!) dk i' j)) (fun vj _ => (intOf vj).toNat)
                      case atStart => exact ⟨j, rfl, Nat.le_refl _, hij', I1, ⟨rfl⟩⟩
                      case round =>
                        clear I1
                        obtain ⟨j', rfl, hjj, hij2, I, hsd⟩ := hrel
                        have c0 := I.out.c0
                        by_cases hle2 : i' ≤ j'
                        · cases hlv2 : E.lt dk[j']! dk[a]! with
                          | false =>
                            have HV := Aside0.mk hlv2
                            clear hlv2
                            have hl := I.out.less hL (i := j') (j := a) (x := (j' : Int)) (y := (a : Int)) (by omega) (by omega) (by omega) (by omega) HV.out
                            go_wp2_with (go_at_fn E.g; refine hl.mono ?_; rintro e w' ⟨rfl, I1⟩; replace I1 := Aside0.mk I1)
                            go_roundw
                            case rel => exact ⟨j' - 1, by go_num, by omega, by omega, I1, ⟨(scanDown_go (fun x => !E.lt x dk[a]!) dk i' j' hle2 (by omega) (by simp [HV.out])).symm.trans hsd.out⟩⟩
                            case measure => simp [intOf]; omega
                          | true =>
                            have HV := Aside0.mk hlv2
                            clear hlv2
                            have hl := I.out.less hL (i := j') (j := a) (x := (j' : Int)) (y := (a : Int)) (by omega) (by omega) (by omega) (by omega) HV.out
                            have hj2 : Aside0 (j' = Sort.scanDown (fun x => !E.lt x dk[a]!) dk i' j) := ⟨(scanDown_end (fun x => !E.lt x dk[a]!) dk i' j' (Or.inr (by simp [HV.out]))).symm.trans hsd.out⟩
                            have hlt3 := part_scans_lt E.lt a i j dk (by omega) hi2.out hj2.out hle2
                            clear hsd
                            go_wp2_with (go_at_fn E.g; refine hl.mono ?_; rintro e w' ⟨rfl, I1⟩; have c1 := I1.c1; obtain ⟨W3, hs, I3⟩ := I1.swap hS (i := i') (j := j') (x := (i' : Int)) (y := (j' : Int)) (by omega) (by omega) (by omega) (by omega); replace I3 := Aside0.mk I3; clear I1)
                            go_roundw
                            case rel => exact ⟨i' + 1, j' - 1, Sort.swp dk i' j', by go_num, by go_num, by omega, by omega, by omega, I3, ⟨by rw [← AE.out]; exact (part_go E.lt a i j dk hi2.out hj2.out (by omega)).symm⟩⟩
                            case measure => simp [intOf]; omega

                        · have hj2 : Aside0 (j' = Sort.scanDown (fun x => !E.lt x dk[a]!) dk i' j) := ⟨(scanDown_end (fun x => !E.lt x dk[a]!) dk i' j' (Or.inl hle2)).symm.trans hsd.out⟩
                          clear hsd
                          obtain ⟨W3, hs, I3⟩ := I.out.swap hS (i := j') (j := a) (x := (j' : Int)) (y := (a : Int)) (by omega) (by omega) (by omega) (by omega)
                          have c1 := I.out.c1
                          replace I3 := Aside0.mk I3
                          go_wp2
                          go_ret2
                          have e1 : Sort.partition E.lt d a b pivot = (j', false, swp dk j' a) := by rw [PF.out, ← AE.out, part_break E.lt a i j dk hi2.out hj2.out (by omega)]
                          rw [e1]
                          exact ⟨rfl, I3.out.st, I3.out.fr⟩
                  · have hi2 : Aside0 (i' = Sort.scanUp (fun x => E.lt x dk[a]!) dk j i) := ⟨(scanUp_end (fun x => E.lt x dk[a]!) dk j i' (Or.inl hle)).symm.trans hsc.out⟩
                    clear hsc
                    go_wp2
                    go_loopw [11] (fun vj w2 => ∃ (j' : Nat), vj = .int .i64 j' ∧ j' ≤ j ∧ i' ≤ j' + 1 ∧ Aside0 (In E W w2 dk) ∧ Aside0 (Sort.scanDown (fun x => !E.lt x dk[a]!) dk i' j' = Sort.scanDown (fun x => !E.lt x dk[a]!) dk i' j)) (fun vj _ => (intOf vj).toNat)
                    case atStart => exact ⟨j, rfl, Nat.le_refl _, hij', I, ⟨rfl⟩⟩
                    case round =>
                      clear I
                      obtain ⟨j', rfl, hjj, hij2, I, hsd⟩ := hrel
                      have c0 := I.out.c0
                      by_cases hle2 : i' ≤ j'
                      · exfalso; omega

                      · have hj2 : Aside0 (j' = Sort.scanDown (fun x => !E.lt x dk[a]!) dk i' j) := ⟨(scanDown_end (fun x => !E.lt x dk[a]!) dk i' j' (Or.inl hle2)).symm.trans hsd.out⟩
                        clear hsd
                        obtain ⟨W3, hs, I3⟩ := I.out.swap hS (i := j') (j := a) (x := (j' : Int)) (y := (a : Int)) (by omega) (by omega) (by omega) (by omega)
                        have c1 := I.out.c1
                        replace I3 := Aside0.mk I3
                        go_wp2
                        go_ret2
                        have e1 : Sort.partition E.lt d a b pivot = (j', false, swp dk j' a) := by rw [PF.out, ← AE.out, part_break E.lt a i j dk hi2.out hj2.out (by omega)]
                        rw [e1]
                        exact ⟨rfl, I3.out.st, I3.out.fr⟩

          · have hj2 : Aside0 (j' = Sort.scanDown (fun x => !E.lt x dk[a]!) dk i' j) := ⟨(scanDown_end (fun x => !E.lt x dk[a]!) dk i' j' (Or.inl hle2)).symm.trans hsd.out⟩
            clear hsd
            obtain ⟨W3, hs, I3⟩ := I.out.swap hS (i := j') (j := a) (x := (j' : Int)) (y := (a : Int)) (by omega) (by omega) (by omega) (by omega)
            have c1 := I.out.c1
            replace I3 := Aside0.mk I3
            go_wp2
            go_ret2
            have e1 : Sort.partition E.lt d a b pivot = (j', true, swp dk j' a) := part_first_break E.lt d a b pivot Hi.out Hj.out Hdk.out hi2.out hj2.out (by omega)
            rw [e1]
            exact ⟨rfl, I3.out.st, I3.out.fr⟩
    · have hi2 : Aside0 (i' = Sort.scanUp (fun x => E.lt x dk[a]!) dk j i) := ⟨(scanUp_end (fun x => E.lt x dk[a]!) dk j i' (Or.inl hle)).symm.trans hsc.out⟩
      clear hsc
      go_wp2
      go_loopw [11] (fun vj w2 => ∃ (j' : Nat), vj = .int .i64 j' ∧ j' ≤ j ∧ i' ≤ j' + 1 ∧ Aside0 (In E W w2 dk) ∧ Aside0 (Sort.scanDown (fun x => !E.lt x dk[a]!) dk i' j' = Sort.scanDown (fun x => !E.lt x dk[a]!) dk i' j)) (fun vj _ => (intOf vj).toNat)
      case atStart => exact ⟨j, rfl, Nat.le_refl _, hij', I, ⟨rfl⟩⟩
      case round =>
        clear I
        obtain ⟨j', rfl, hjj, hij2, I, hsd⟩ := hrel
        have c0 := I.out.c0
        by_cases hle2 : i' ≤ j'
        · exfalso; omega

        · have hj2 : Aside0 (j' = Sort.scanDown (fun x => !E.lt x dk[a]!) dk i' j) := ⟨(scanDown_end (fun x => !E.lt x dk[a]!) dk i' j' (Or.inl hle2)).symm.trans hsd.out⟩
          clear hsd
          obtain ⟨W3, hs, I3⟩ := I.out.swap hS (i := j') (j := a) (x := (j' : Int)) (y := (a : Int)) (by omega) (by omega) (by omega) (by omega)
          have c1 := I.out.c1
          replace I3 := Aside0.mk I3
          go_wp2
          go_ret2
          have e1 : Sort.partition E.lt d a b pivot = (j', true, swp dk j' a) := part_first_break E.lt d a b pivot Hi.out Hj.out Hdk.out hi2.out hj2.out (by omega)
          rw [e1]
          exact ⟨rfl, I3.out.st, I3.out.fr⟩
#print axioms l_partition
end Go.Proofs.Ytbbkimgadohdkaa.X
