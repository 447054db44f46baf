/- Conditions: none. -/
import Derived.Test.YtkdendlgaaimbaaYQDrawx0
import Derived.Test.YtkdendlgaaimbaaYQDrawx1
namespace Go.Proofs.Ytkdendlgaaimbaa.PDraw
open Go.RowKit Go.Proofs.YtkdendlgaaimbaaW.PrintWords Go.Proofs.YtkdendlgaaimbaaW.PrintLast Go.Proofs.YtkdendlgaaimbaaW.PrintMore
attribute [local go_sem] max2_int min2_int max_two min_two max_three min_three max_four min_four
set_option linter.unusedVariables false
set_option linter.unusedSimpArgs false
def spec_l71Row.f (k : Nat) (s0_0 : List Int) (s0_1 : Int) : Option (Int × Int × Int × Int × Int × Int) := (spec_l6Rd_pick.f k s0_0 s0_1 4).bind fun bt116 => ((some (([0, 1, 2, 3, 4, 9, 10, 57, 99] : List Int) : List Int)).bind fun y118 => ((spec_l6Rd_pick.f k s0_0 bt116.2 9).bind fun bt121 => (if 0 ≤ bt121.1 then (if bt121.1 < (y118.length : Int) then ((spec_l71Time.f k s0_0 bt121.2).bind fun bt124 => ((some (([1, 1, 1, 2, (-1), (-1), 3, 0] : List Int) : List Int)).bind fun y127 => ((spec_l6Rd_pick.f k s0_0 bt124.2.2 8).bind fun bt130 => (if 0 ≤ bt130.1 then (if bt130.1 < (y127.length : Int) then (some (bt116.1, rd y118 bt121.1, bt124.1, bt124.2.1, rd y127 bt130.1, bt130.2)) else (none)) else (none))))) else (none)) else (none))))
def spec_l71Row.T1 : Bool × List (List Nat × List Nat) := (true, [([], []), ([0], [0]), ([], []), ([], []), ([3, 1], [3]), ([2, 4], [2, 4]), ([5], [5]), ([], []), ([7, 4], [7]), ([], []), ([], []), ([10, 8], [10]), ([9, 11], [9, 11]), ([12], [12]), ([1, 6, 8, 13], [1, 6, 8, 13]), ([14, 11, 0, 1, 2, 3, 4, 5, 6, 7, 8, 9, 10, 11, 12, 13, 14], [14])])
def spec_l71Row.B1 : List Nat := [0, 1, 0, 0, 11, 31, 63, 0, 155, 0, 0, 1435, 3995, 8091, 16383, 32767]
theorem spec_l71Row.tab1 : rtab .any (opsOf Try.f165 1) = spec_l71Row.T1 := by kernel_rfl
theorem spec_l71Row.bits1 : waitsOk spec_l71Row.T1.2 spec_l71Row.B1 = true := by kernel_rfl
set_option maxHeartbeats 8000000 in
set_option maxRecDepth 100000 in
theorem spec_l71Row.calls (k : Nat) (g : Nat) (s0_0 : List Int) (s0_1 : Int) (r1 : Int) (r2 : Int) (r3 : Int) (r4 : Int) (r5 : Int) (r6 : Int) (w0 w : World) (hI : IsS145 w0 w g s0_0 s0_1) (hB : Below w0.heap.size w0 w) (h : spec_l71Row.f k s0_0 s0_1 = some (r1, r2, r3, r4, r5, r6)) :
  Calls Try.prog 165 #[.pointer (some ⟨g, 0, none⟩)] w fun e w' => e = .returned (.agg #[.int .i64 r1, .int .i64 r2, .int .i64 r3, .int .i64 r4, .int .i64 r5]) ∧ IsS145 w0 w' g s0_0 r6 ∧ Below w0.heap.size w0 w' ∧ KeepBut w w' g none := by
 have hu102 := Try.underlying102
 have HI0 := Aside0.mk hI
 have HK := Aside0.mk (KeepBut.refl w g none)
 have HL := Aside0.mk hB.size
 clear hI
 have HW0 := Aside0.mk hB.size
 have HB := Aside0.mk hB
 clear hB
 have H : ((spec_l6Rd_pick.f k s0_0 s0_1 4).bind fun bt116 => ((some (([0, 1, 2, 3, 4, 9, 10, 57, 99] : List Int) : List Int)).bind fun y118 => ((spec_l6Rd_pick.f k s0_0 bt116.2 9).bind fun bt121 => (if 0 ≤ bt121.1 then (if bt121.1 < (y118.length : Int) then ((spec_l71Time.f k s0_0 bt121.2).bind fun bt124 => ((some (([1, 1, 1, 2, (-1), (-1), 3, 0] : List Int) : List Int)).bind fun y127 => ((spec_l6Rd_pick.f k s0_0 bt124.2.2 8).bind fun bt130 => (if 0 ≤ bt130.1 then (if bt130.1 < (y127.length : Int) then (some (bt116.1, rd y118 bt121.1, bt124.1, bt124.2.1, rd y127 bt130.1, bt130.2)) else (none)) else (none))))) else (none)) else (none))))) = some (r1, r2, r3, r4, r5, r6) := h
 clear h
 replace H := Option.bind_eq_some_iff.mp H
 obtain ⟨⟨t116, t117⟩, A20, H⟩ := H
 replace H : ((some (([0, 1, 2, 3, 4, 9, 10, 57, 99] : List Int) : List Int)).bind fun y118 => ((spec_l6Rd_pick.f k s0_0 t117 9).bind fun bt121 => (if 0 ≤ bt121.1 then (if bt121.1 < (y118.length : Int) then ((spec_l71Time.f k s0_0 bt121.2).bind fun bt124 => ((some (([1, 1, 1, 2, (-1), (-1), 3, 0] : List Int) : List Int)).bind fun y127 => ((spec_l6Rd_pick.f k s0_0 bt124.2.2 8).bind fun bt130 => (if 0 ≤ bt130.1 then (if bt130.1 < (y127.length : Int) then (some (t116, rd y118 bt121.1, bt124.1, bt124.2.1, rd y127 bt130.1, bt130.2)) else (none)) else (none))))) else (none)) else (none)))) = some (r1, r2, r3, r4, r5, r6) := H
 have A2 := Aside0.mk A20
 clear A20
 obtain ⟨y118, hy118⟩ : ∃ y_ : List Int, y_ = (([0, 1, 2, 3, 4, 9, 10, 57, 99] : List Int)) := ⟨_, rfl⟩
 replace H : ((spec_l6Rd_pick.f k s0_0 t117 9).bind fun bt121 => (if 0 ≤ bt121.1 then (if bt121.1 < (y118.length : Int) then ((spec_l71Time.f k s0_0 bt121.2).bind fun bt124 => ((some (([1, 1, 1, 2, (-1), (-1), 3, 0] : List Int) : List Int)).bind fun y127 => ((spec_l6Rd_pick.f k s0_0 bt124.2.2 8).bind fun bt130 => (if 0 ≤ bt130.1 then (if bt130.1 < (y127.length : Int) then (some (t116, rd y118 bt121.1, bt124.1, bt124.2.1, rd y127 bt130.1, bt130.2)) else (none)) else (none))))) else (none)) else (none))) = some (r1, r2, r3, r4, r5, r6) := by first | (rw [hy118]; with_reducible exact H) | (have H2_ := (Option.bind_some _ _).symm.trans H; rw [hy118]; with_reducible exact H2_) | (have H2_ := (Option.bind_some _ _).symm.trans H; with_reducible exact H2_) | with_reducible exact H | (rw [hy118]; exact H) | exact H
 have Ny118 := Aside0.mk hy118
 clear hy118
 replace H := Option.bind_eq_some_iff.mp H
 obtain ⟨⟨t121, t122⟩, A30, H⟩ := H
 replace H : (if 0 ≤ t121 then (if t121 < (y118.length : Int) then ((spec_l71Time.f k s0_0 t122).bind fun bt124 => ((some (([1, 1, 1, 2, (-1), (-1), 3, 0] : List Int) : List Int)).bind fun y127 => ((spec_l6Rd_pick.f k s0_0 bt124.2.2 8).bind fun bt130 => (if 0 ≤ bt130.1 then (if bt130.1 < (y127.length : Int) then (some (t116, rd y118 t121, bt124.1, bt124.2.1, rd y127 bt130.1, bt130.2)) else (none)) else (none))))) else (none)) else (none)) = some (r1, r2, r3, r4, r5, r6) := H
 have A3 := Aside0.mk A30
 clear A30
 by_cases c4 : 0 ≤ t121
 ·rw [if_pos c4] at H
  have c4b0 : decide (0 ≤ t121) = true := decide_eq_true c4
  clear c4
  by_cases c5 : t121 < (y118.length : Int)
  ·rw [if_pos c5] at H
   have c5b0 : decide (t121 < (y118.length : Int)) = true := decide_eq_true c5
   clear c5
   replace H := Option.bind_eq_some_iff.mp H
   obtain ⟨⟨t124, t125, t126⟩, A60, H⟩ := H
   replace H : ((some (([1, 1, 1, 2, (-1), (-1), 3, 0] : List Int) : List Int)).bind fun y127 => ((spec_l6Rd_pick.f k s0_0 t126 8).bind fun bt130 => (if 0 ≤ bt130.1 then (if bt130.1 < (y127.length : Int) then (some (t116, rd y118 t121, t124, t125, rd y127 bt130.1, bt130.2)) else (none)) else (none)))) = some (r1, r2, r3, r4, r5, r6) := H
   have A6 := Aside0.mk A60
   clear A60
   obtain ⟨y127, hy127⟩ : ∃ y_ : List Int, y_ = (([1, 1, 1, 2, (-1), (-1), 3, 0] : List Int)) := ⟨_, rfl⟩
   replace H : ((spec_l6Rd_pick.f k s0_0 t126 8).bind fun bt130 => (if 0 ≤ bt130.1 then (if bt130.1 < (y127.length : Int) then (some (t116, rd y118 t121, t124, t125, rd y127 bt130.1, bt130.2)) else (none)) else (none))) = some (r1, r2, r3, r4, r5, r6) := by first | (rw [hy127]; with_reducible exact H) | (have H2_ := (Option.bind_some _ _).symm.trans H; rw [hy127]; with_reducible exact H2_) | (have H2_ := (Option.bind_some _ _).symm.trans H; with_reducible exact H2_) | with_reducible exact H | (rw [hy127]; exact H) | exact H
   have Ny127 := Aside0.mk hy127
   clear hy127
   replace H := Option.bind_eq_some_iff.mp H
   obtain ⟨⟨t130, t131⟩, A70, H⟩ := H
   replace H : (if 0 ≤ t130 then (if t130 < (y127.length : Int) then (some (t116, rd y118 t121, t124, t125, rd y127 t130, t131)) else (none)) else (none)) = some (r1, r2, r3, r4, r5, r6) := H
   have A7 := Aside0.mk A70
   clear A70
   by_cases c8 : 0 ≤ t130
   ·rw [if_pos c8] at H
    have c8b0 : decide (0 ≤ t130) = true := decide_eq_true c8
    clear c8
    by_cases c9 : t130 < (y127.length : Int)
    ·rw [if_pos c9] at H
     have c9b0 : decide (t130 < (y127.length : Int)) = true := decide_eq_true c9
     clear c9
     simp only [Option.some.injEq, Prod.mk.injEq] at H
     obtain ⟨rfl, rfl, rfl, rfl, rfl, rfl⟩ := H
     go_enter Try.func165, Try.ntmps165
     try go_wp2_with (first | ((with_reducible refine gate_dst (N := 2) rfl ?_); refine box_event ?hg (N := 2) ?hd (cs := #[.int .i64 0, .int .i64 0, .int .i64 0, .int .i64 0, .int .i64 0]) (t := 102) ?hr ?_; (case hd => rfl); (case hg => rfl); (case hr => first | (go_simp; done) | (go_simp; rfl)); intro gb115 hg w10 hbox hb; have n0_ := Aside0.mk (IsS145.below (by repeat (first | (with_reducible first | exact HI0.out | apply IsS145.alloc | apply IsS145.drewN | apply IsS145.drew | apply IsS145.set_1) | exact HI0.out)) hb); have n1_ := Aside0.mk (KeepBut.trans (by repeat (first | (with_reducible first | exact HK.out | apply KeepBut.set_ | apply keep_drewN | apply keep_drew | apply keep_alloc) | exact HK.out)) (KeepBut.of_below hb g none) (.inl rfl)); have n2_ := Aside0.mk (below_step (by repeat (first | (with_reducible first | exact HB.out | apply below_alloc | apply pw_below_drewN | apply below_drew1 | refine below_set ?_ (IsS145.ge HI0.out)) | exact HB.out)) hb); have n3_ := Aside0.mk (hbox); have n4_ := Aside0.mk ((by rw [hg]; exact (keep_size (w := w) (g := g) (row := none) (by repeat (first | (with_reducible first | exact HK.out | apply KeepBut.set_ | apply keep_drewN | apply keep_drew | apply keep_alloc) | exact HK.out))) : w.heap.size ≤ gb115)); have n5_ := Aside0.mk ((Nat.le_trans HW0.out (by rw [hg]; exact (keep_size (w := w) (g := g) (row := none) (by repeat (first | (with_reducible first | exact HK.out | apply KeepBut.set_ | apply keep_drewN | apply keep_drew | apply keep_alloc) | exact HK.out))) : w.heap.size ≤ gb115) : w0.heap.size ≤ gb115)); have n6_ := Aside0.mk ((by rw [hg]; exact Nat.ne_of_lt (IsS145.lt (show IsS145 w0 _ g s0_0 s0_1 from by repeat (first | (with_reducible first | exact HI0.out | apply IsS145.alloc | apply IsS145.drewN | apply IsS145.drew | apply IsS145.set_1) | exact HI0.out))) : g ≠ gb115)); have n7_ := Aside0.mk ((by rw [hg]; exact Nat.ne_of_gt (IsS145.lt (show IsS145 w0 _ g s0_0 s0_1 from by repeat (first | (with_reducible first | exact HI0.out | apply IsS145.alloc | apply IsS145.drewN | apply IsS145.drew | apply IsS145.set_1) | exact HI0.out))) : gb115 ≠ g)); clear HI0; clear HK; clear HB; have HI0 := n0_; have HK := n1_; have HB := n2_; have BK115 := n3_; have GW115 := n4_; have GE115 := n5_; have NB0_115 := n6_; have NB115_0 := n7_; clear n0_ n1_ n2_ n3_ n4_ n5_ n6_ n7_; clear hb hbox hg))
     have pi123 : (0 ≤ (t121 : Int)) = True := eq_true (of_decide_eq_true (by first | (with_reducible assumption) | assumption))
     have qi123 : (t121 < (y118.length : Int)) = True := eq_true (of_decide_eq_true (by first | (with_reducible assumption) | assumption))
     have pi132 : (0 ≤ (t130 : Int)) = True := eq_true (of_decide_eq_true (by first | (with_reducible assumption) | assumption))
     have qi132 : (t130 < (y127.length : Int)) = True := eq_true (of_decide_eq_true (by first | (with_reducible assumption) | assumption))
     have n0_ := Aside0.mk (blk_drew BK115.out)
     have n1_ := Aside0.mk (IsS145.drew HI0.out)
     have n2_ := Aside0.mk (keep_drew HK.out)
     have n3_ := Aside0.mk (below_drew1 HB.out)
     clear BK115
     clear HI0
     clear HK
     clear HB
     have BK115 := n0_
     have HI0 := n1_
     have HK := n2_
     have HB := n3_
     clear n0_ n1_ n2_ n3_
     refine start_ (n := 16) (S := fun w' => True) (ds := []) #[false, false, false, false, false, false, false, false, false, false, false, false, false, false, false, false] (by kernel_rfl) rfl rfl trivial (fun hHeld => ?_); refine with_tabW spec_l71Row.tab1 spec_l71Row.bits1 (fun HT_ HW_ => ?_)
     generalize w10.drew = w11 at BK115 HI0 HK HB hHeld ⊢
     refine pure_ (i := 0) (N := some 3) (v := ?_) (a' := ?_) #[true, false, false, false, false, false, false, false, false, false, false, false, false, false, false, false] rfl rfl (any_of HT_.out (by kernel_rfl)) (fun _ _ _ h => h) (Or.inl ⟨by rfl, ?_⟩) ?_ ?_
     rotate_left; (intro w'; go_simp; with_reducible rfl); rotate_left; (simp only [Act.put, List.setIfInBounds_toArray, List.set_cons_zero, List.set_cons_succ, i64_w, i32_w]; rfl)
     refine pure_ (i := 3) (N := some 6) (v := ?_) (a' := ?_) #[true, false, false, true, false, false, false, false, false, false, false, false, false, false, false, false] rfl rfl (any_of HT_.out (by kernel_rfl)) (fun _ _ _ h => h) (Or.inl ⟨by rfl, ?_⟩) ?_ ?_
     rotate_left; (intro w'; go_simp; with_reducible rfl); rotate_left; (simp only [Act.put, List.setIfInBounds_toArray, List.set_cons_zero, List.set_cons_succ, i64_w, i32_w]; rfl)
     refine pure_ (i := 7) (N := some 10) (v := ?_) (a' := ?_) #[true, false, false, true, false, false, false, true, false, false, false, false, false, false, false, false] rfl rfl (any_of HT_.out (by kernel_rfl)) (fun _ _ _ h => h) (Or.inl ⟨by rfl, ?_⟩) ?_ ?_
     rotate_left; (intro w'; go_simp; with_reducible rfl); rotate_left; (simp only [Act.put, List.setIfInBounds_toArray, List.set_cons_zero, List.set_cons_succ, i64_w, i32_w]; rfl)
     refine pure_ (i := 10) (N := some 13) (v := ?_) (a' := ?_) #[true, false, false, true, false, false, false, true, false, false, true, false, false, false, false, false] rfl rfl (any_of HT_.out (by kernel_rfl)) (fun _ _ _ h => h) (Or.inl ⟨by rfl, ?_⟩) ?_ ?_
     rotate_left; (intro w'; go_simp; with_reducible rfl); rotate_left; (simp only [Act.put, List.setIfInBounds_toArray, List.set_cons_zero, List.set_cons_succ, i64_w, i32_w]; rfl)
     refine inv_at [1, 2, 4, 5, 6, 8, 9, 11, 12, 13, 14, 15] (fun a0_ b a w' => ∃ (v119 : Value) (adz_v119 : Addr) (v128 : Value) (adz_v128 : Addr) (m5_ : Value) (m12_ : Value), a = putSel a0_ b [(1, 4, .int .i64 t116), (2, 5, v119), (4, 7, .int .i64 t121), (5, 8, m5_), (6, 9, .int .i64 (rd y118 t121)), (8, 11, .agg #[.int .i64 t124, .int .i64 t125]), (9, 12, v128), (11, 14, .int .i64 t130), (12, 15, m12_), (13, 16, .int .i64 (rd y127 t130)), (14, 17, .agg #[.int .i64 t116, .int .i64 (rd y118 t121), .int .i64 t124, .int .i64 t125, .int .i64 (rd y127 t130)])] ∧ (b 15 = false → w'.heap[gb115]? = some (.cells #[.int .i64 0, .int .i64 0, .int .i64 0, .int .i64 0, .int .i64 0] 102 (0, 0))) ∧ (b 1 = false → IsS145 w0 w' g s0_0 s0_1) ∧ (KeepBut w w' g none) ∧ (Below w0.heap.size w0 w') ∧ (b 1 = true → b 4 = false → IsS145 w0 w' g s0_0 t117) ∧ (b 2 = true → Kd.R (Kd.int .i64) 3 w' w.heap.size (fun _ => True) v119 y118) ∧ (b 2 = true → ∃ c_, (v119 : Value) = .slice (some adz_v119) y118.length c_) ∧ (b 4 = true → b 8 = false → IsS145 w0 w' g s0_0 t122) ∧ (b 8 = true → b 11 = false → IsS145 w0 w' g s0_0 t126) ∧ (b 9 = true → Kd.R (Kd.int .i64) 3 w' w.heap.size (fun _ => True) v128 y127) ∧ (b 9 = true → ∃ c_, (v128 : Value) = .slice (some adz_v128) y127.length c_) ∧ (b 11 = true → IsS145 w0 w' g s0_0 t131) ∧ (b 15 = true → w'.heap[gb115]? = some (.cells #[.int .i64 t116, .int .i64 (rd y118 t121), .int .i64 t124, .int .i64 t125, .int .i64 (rd y127 t130)] 102 (0, 0))) ∧ (b 5 = true → (m5_ : Value) = .pointer (some (adz_v119.add (t121).toNat))) ∧ (b 12 = true → (m12_ : Value) = .pointer (some (adz_v128.add (t130).toNat)))) HT_.out HW_.out (by kernel_rfl) (by kernel_rfl) ?_ ?_ ?_
     ·exact ⟨.bool false, ⟨0, 0, none⟩, .bool false, ⟨0, 0, none⟩, .bool false, .bool false, by simp only [putSel, Bool.false_eq_true, if_false], fun _ => BK115.out, fun _ => HI0.out, HK.out, HB.out, fun h_ => absurd h_ (by decide), fun h_ => absurd h_ (by decide), fun h_ => absurd h_ (by decide), fun h_ => absurd h_ (by decide), fun h_ => absurd h_ (by decide), fun h_ => absurd h_ (by decide), fun h_ => absurd h_ (by decide), fun h_ => absurd h_ (by decide), fun h_ => absurd h_ (by decide), fun h_ => absurd h_ (by decide), fun h_ => absurd h_ (by decide)⟩
     ·skip
      clear BK115 HB HI0 HK
      refine steps_cons ?_ ?_
      ·rintro b a w' ⟨v119, adz_v119, v128, adz_v128, m5_, m12_, ha, Q_BK115, Q_HI0, Q_HK, Q_HB, Q_HI0_e1, Q_HO120, Q_HA_HO120, Q_HI0_e4, Q_HI0_e8, Q_HO129, Q_HA_HO129, Q_HI0_e11, Q_BK115_e15, Q_X5_, Q_X12_⟩ hb_ hon hoff
       refine ⟨_, rfl, fun K hK => ?_⟩
       have e3 : a.tmps[3]? = some (.pointer (some ⟨g, 0, none⟩)) := by rw [ha]; exact (putSel_off rfl).trans rfl
       replace ha := Aside0.mk ha
       have BK115 := Aside0.mk (Q_BK115 (hoff 15 (by kernel_rfl)))
       have HI0 := Aside0.mk (Q_HI0 hb_)
       have HK := Aside0.mk Q_HK
       have HB := Aside0.mk Q_HB
       refine goes_ Try.func69 (by kernel_rfl) rfl #[.pointer (some ⟨g, 0, none⟩), .int .i64 4] (by rfl) rfl rfl (by first | (simp only [List.map_toArray, List.map_cons, List.map_nil, Act.eval, Array.getD_eq_getD_getElem?, Option.getD_some, e3]; done) | (simp only [List.map_toArray, List.map_cons, List.map_nil, Act.eval, Array.getD_eq_getD_getElem?, Option.getD_some, e3]; rfl)) ?_
       with_reducible refine (spec_l6Rd_pick.calls k g s0_0 s0_1 4 t116 t117 w0 _ ?side1 ?side2 A2.out).mono ?_
       (case side1 => repeat (first | (with_reducible first | exact HI0.out | apply IsS145.alloc | apply IsS145.drewN | apply IsS145.drew | apply IsS145.set_1 | refine IsS145.far ?_ NB0_115.out _) | exact HI0.out))
       (case side2 => repeat (first | (with_reducible first | exact HB.out | apply below_alloc | apply pw_below_drewN | apply below_drew1 | refine below_set ?_ (IsS145.ge HI0.out) | refine below_set ?_ GE115.out) | exact HB.out))
       rintro e w12 ⟨rfl, hi, hb, hk⟩
       refine ⟨_, rfl, ?_⟩
       have n0_ := Aside0.mk (KeepBut.blk hk (g' := gb115) (o := .cells #[.int .i64 0, .int .i64 0, .int .i64 0, .int .i64 0, .int .i64 0] 102 (0, 0)) (by (with_reducible repeat (first | refine blk_drewN ?_ _ | refine blk_drew ?_ | refine blk_alloc ?_ _)); exact BK115.out) NB115_0.out (by simp))
       have n1_ := Aside0.mk (KeepBut.trans (by repeat (first | (with_reducible first | exact HK.out | apply KeepBut.set_ | apply keep_drewN | apply keep_drew | apply keep_alloc | refine keep_far ?_ GW115.out _) | exact HK.out)) hk (.inl rfl))
       have n2_ := Aside0.mk (hb)
       have n3_ := Aside0.mk (hi)
       have z_HO120 := fun (h0_ : b 2 = true) => (show Kd.R (Kd.int .i64) 3 w12 w.heap.size (fun _ => True) v119 y118 from by first | exact (Kd.R_mono (Kd.R_keep (IsS145.apart (show IsS145 w0 _ g s0_0 s0_1 from by repeat (first | (with_reducible first | exact HI0.out | apply IsS145.alloc | apply IsS145.drewN | apply IsS145.drew | apply IsS145.set_1 | refine IsS145.far ?_ NB0_115.out _) | exact HI0.out)) (by (with_reducible repeat (first | apply Kd.R_alloc | apply Kd.R_drewN | apply Kd.R_drew)); exact (Q_HO120 h0_)) (by decide)) hk (fun _ h => h.2)) (fun _ h => h.1)) | exact Kd.R_mono (Kd.R_mono (Kd.R_keep (IsS145.apart (show IsS145 w0 _ g s0_0 s0_1 from by repeat (first | (with_reducible first | exact HI0.out | apply IsS145.alloc | apply IsS145.drewN | apply IsS145.drew | apply IsS145.set_1 | refine IsS145.far ?_ NB0_115.out _) | exact HI0.out)) (by (with_reducible repeat (first | apply Kd.R_alloc | apply Kd.R_drewN | apply Kd.R_drew)); exact (Q_HO120 h0_)) (by decide)) hk (fun _ h => h.2)) (fun _ h => h.1)) (fun _ h_ => by first | trivial | exact h_ | exact h_.1))
       have z_HO129 := fun (h0_ : b 9 = true) => (show Kd.R (Kd.int .i64) 3 w12 w.heap.size (fun _ => True) v128 y127 from by first | exact (Kd.R_mono (Kd.R_keep (IsS145.apart (show IsS145 w0 _ g s0_0 s0_1 from by repeat (first | (with_reducible first | exact HI0.out | apply IsS145.alloc | apply IsS145.drewN | apply IsS145.drew | apply IsS145.set_1 | refine IsS145.far ?_ NB0_115.out _) | exact HI0.out)) (by (with_reducible repeat (first | apply Kd.R_alloc | apply Kd.R_drewN | apply Kd.R_drew)); exact (Q_HO129 h0_)) (by decide)) hk (fun _ h => h.2)) (fun _ h => h.1)) | exact Kd.R_mono (Kd.R_mono (Kd.R_keep (IsS145.apart (show IsS145 w0 _ g s0_0 s0_1 from by repeat (first | (with_reducible first | exact HI0.out | apply IsS145.alloc | apply IsS145.drewN | apply IsS145.drew | apply IsS145.set_1 | refine IsS145.far ?_ NB0_115.out _) | exact HI0.out)) (by (with_reducible repeat (first | apply Kd.R_alloc | apply Kd.R_drewN | apply Kd.R_drew)); exact (Q_HO129 h0_)) (by decide)) hk (fun _ h => h.2)) (fun _ h => h.1)) (fun _ h_ => by first | trivial | exact h_ | exact h_.1))
       clear BK115
       clear HK
       clear HB
       clear HI0
       have BK115 := n0_
       have HK := n1_
       have HB := n2_
       have HI0 := n3_
       clear n0_ n1_ n2_ n3_
       (try clear hb)
       (try clear hb2)
       (try clear hk)
       (try clear hi)
       refine hK.out _ _ ⟨v119, adz_v119, v128, adz_v128, m5_, m12_, (by rw [ha.out]; exact putSel_upk 0 hb_ rfl rfl rfl), fun _ => (by (with_reducible repeat (first | refine blk_drewN ?_ _ | refine blk_drew ?_ | refine blk_alloc ?_ _)); exact BK115.out), fun h0_ => absurd ((up_self b 1).symm.trans h0_) (by decide), (by repeat (first | (with_reducible first | exact HK.out | apply KeepBut.set_ | apply keep_drewN | apply keep_drew | apply keep_alloc | refine keep_far ?_ GW115.out _) | exact HK.out)), (by repeat (first | (with_reducible first | exact HB.out | apply below_alloc | apply pw_below_drewN | apply below_drew1 | refine below_set ?_ (IsS145.ge HI0.out) | refine below_set ?_ GE115.out) | exact HB.out)), fun _ _ => (by repeat (first | (with_reducible first | exact HI0.out | apply IsS145.alloc | apply IsS145.drewN | apply IsS145.drew | apply IsS145.set_1 | refine IsS145.far ?_ NB0_115.out _) | exact HI0.out)), z_HO120, Q_HA_HO120, fun h0_ _ => absurd ((hoff 4 (by kernel_rfl)).symm.trans h0_) (by decide), fun h0_ _ => absurd ((hoff 8 (by kernel_rfl)).symm.trans h0_) (by decide), z_HO129, Q_HA_HO129, fun h0_ => absurd ((hoff 11 (by kernel_rfl)).symm.trans h0_) (by decide), fun h0_ => absurd ((hoff 15 (by kernel_rfl)).symm.trans h0_) (by decide), fun h0_ => absurd ((hoff 5 (by kernel_rfl)).symm.trans h0_) (by decide), fun h0_ => absurd ((hoff 12 (by kernel_rfl)).symm.trans h0_) (by decide)⟩
      refine steps_cons ?_ ?_
      ·rintro b a w' ⟨v119, adz_v119, v128, adz_v128, m5_, m12_, ha, Q_BK115, Q_HI0, Q_HK, Q_HB, Q_HI0_e1, Q_HO120, Q_HA_HO120, Q_HI0_e4, Q_HI0_e8, Q_HO129, Q_HA_HO129, Q_HI0_e11, Q_BK115_e15, Q_X5_, Q_X12_⟩ hb_ hon hoff
       refine ⟨_, rfl, fun K hK => ?_⟩
       replace ha := Aside0.mk ha
       have BK115 := Aside0.mk (Q_BK115 (hoff 15 (by kernel_rfl)))
       have HK := Aside0.mk Q_HK
       have HB := Aside0.mk Q_HB
       refine Kd.R_lit_step (Kd.int .i64) _ 3 ?hg (N := 5) ?hd (xs := ([0, 1, 2, 3, 4, 9, 10, 57, 99] : List Int)) (inner := [.int .i64 0, .int .i64 1, .int .i64 2, .int .i64 3, .int .i64 4, .int .i64 9, .int .i64 10, .int .i64 57, .int .i64 99]) (ok := fun _ => True) (okp := fun _ => True) ?hr ?hp (fun _ hk => hk) trivial (Below.refl _ _) (Nat.le_refl _) (by simp) ?_; (case hd => rfl); (case hg => rfl); (case hr => first | (go_simp; done) | (go_simp; rfl)); (case hp => exact (Reps.one (show Kd.M (Kd.int .i64) _ _ _ 0 [.int .i64 0] from rfl) (Reps.one (show Kd.M (Kd.int .i64) _ _ _ 1 [.int .i64 1] from rfl) (Reps.one (show Kd.M (Kd.int .i64) _ _ _ 2 [.int .i64 2] from rfl) (Reps.one (show Kd.M (Kd.int .i64) _ _ _ 3 [.int .i64 3] from rfl) (Reps.one (show Kd.M (Kd.int .i64) _ _ _ 4 [.int .i64 4] from rfl) (Reps.one (show Kd.M (Kd.int .i64) _ _ _ 9 [.int .i64 9] from rfl) (Reps.one (show Kd.M (Kd.int .i64) _ _ _ 10 [.int .i64 10] from rfl) (Reps.one (show Kd.M (Kd.int .i64) _ _ _ 57 [.int .i64 57] from rfl) (Reps.one (show Kd.M (Kd.int .i64) _ _ _ 99 [.int .i64 99] from rfl) (Reps.none _ _)))))))))))
       intro v119 w12 ho13 hb hg_ hnew_
       clear hg_ hnew_
       (first | rw [← Ny118.out] at ho13 | (simp only [Int.reduceToNat] at ho13; rw [← Ny118.out] at ho13))
       have n0_ := Aside0.mk (Kd.R_lower ho13 (keep_size (w := w) (g := g) (row := none) (by repeat (first | (with_reducible first | exact HK.out | apply KeepBut.set_ | apply keep_drewN | apply keep_drew | apply keep_alloc | refine keep_far ?_ GW115.out _) | exact HK.out))))
       have n2_ := Aside0.mk (blk_below (g := gb115) (o := .cells #[.int .i64 0, .int .i64 0, .int .i64 0, .int .i64 0, .int .i64 0] 102 (0, 0)) (by (with_reducible repeat (first | refine blk_drewN ?_ _ | refine blk_drew ?_ | refine blk_alloc ?_ _)); exact BK115.out) hb)
       have n3_ := Aside0.mk (KeepBut.trans (by repeat (first | (with_reducible first | exact HK.out | apply KeepBut.set_ | apply keep_drewN | apply keep_drew | apply keep_alloc | refine keep_far ?_ GW115.out _) | exact HK.out)) (KeepBut.of_below hb g none) (.inl rfl))
       have n4_ := Aside0.mk (below_step (by repeat (first | (with_reducible first | exact HB.out | apply below_alloc | apply pw_below_drewN | apply below_drew1 | refine below_set ?_ GE115.out) | exact HB.out)) hb)
       have z_HI0 := fun (h0_ : b 1 = false) => (show IsS145 w0 w12 g s0_0 s0_1 from by first | exact (IsS145.below (by repeat (first | (with_reducible first | exact (Q_HI0 h0_) | apply IsS145.alloc | apply IsS145.drewN | apply IsS145.drew | apply IsS145.set_1 | refine IsS145.far ?_ NB0_115.out _) | exact (Q_HI0 h0_))) hb))
       have z_HI0_e1 := fun (h0_ : b 1 = true) (h1_ : b 4 = false) => (show IsS145 w0 w12 g s0_0 t117 from by first | exact (IsS145.below (by repeat (first | (with_reducible first | exact (Q_HI0_e1 h0_ h1_) | apply IsS145.alloc | apply IsS145.drewN | apply IsS145.drew | apply IsS145.set_1 | refine IsS145.far ?_ NB0_115.out _) | exact (Q_HI0_e1 h0_ h1_))) hb))
       have z_HI0_e4 := fun (h0_ : b 4 = true) (h1_ : b 8 = false) => (show IsS145 w0 w12 g s0_0 t122 from by first | exact (IsS145.below (by repeat (first | (with_reducible first | exact (Q_HI0_e4 h0_ h1_) | apply IsS145.alloc | apply IsS145.drewN | apply IsS145.drew | apply IsS145.set_1 | refine IsS145.far ?_ NB0_115.out _) | exact (Q_HI0_e4 h0_ h1_))) hb))
       have z_HI0_e8 := fun (h0_ : b 8 = true) (h1_ : b 11 = false) => (show IsS145 w0 w12 g s0_0 t126 from by first | exact (IsS145.below (by repeat (first | (with_reducible first | exact (Q_HI0_e8 h0_ h1_) | apply IsS145.alloc | apply IsS145.drewN | apply IsS145.drew | apply IsS145.set_1 | refine IsS145.far ?_ NB0_115.out _) | exact (Q_HI0_e8 h0_ h1_))) hb))
       have z_HO129 := fun (h0_ : b 9 = true) => (show Kd.R (Kd.int .i64) 3 w12 w.heap.size (fun _ => True) v128 y127 from by first | exact (Kd.R_elder' (by (with_reducible repeat (first | apply Kd.R_alloc | apply Kd.R_drewN | apply Kd.R_drew)); exact (Q_HO129 h0_)) (Kd.R_base ho13) hb) | exact Kd.R_mono (Kd.R_elder' (by (with_reducible repeat (first | apply Kd.R_alloc | apply Kd.R_drewN | apply Kd.R_drew)); exact (Q_HO129 h0_)) (Kd.R_base ho13) hb) (fun _ h_ => by first | trivial | exact h_ | exact h_.1))
       have z_HI0_e11 := fun (h0_ : b 11 = true) => (show IsS145 w0 w12 g s0_0 t131 from by first | exact (IsS145.below (by repeat (first | (with_reducible first | exact (Q_HI0_e11 h0_) | apply IsS145.alloc | apply IsS145.drewN | apply IsS145.drew | apply IsS145.set_1 | refine IsS145.far ?_ NB0_115.out _) | exact (Q_HI0_e11 h0_))) hb))
       clear BK115
       clear HK
       clear HB
       have HO120 := n0_
       have BK115 := n2_
       have HK := n3_
       have HB := n4_
       clear n0_ n2_ n3_ n4_
       clear hb ho13
       obtain ⟨Ao14, co14, eo14⟩ := Kd.R_slice HO120.out
       subst eo14
       obtain ⟨ado14, fo14, _⟩ := Kd.at_int (Kd.R_reads' HO120.out).2.2 0 (by decide) (by rw [Ny118.out]; simp)
       cases fo14
       refine hK.out _ _ ⟨.slice (some ado14) y118.length co14, ado14, v128, adz_v128, m5_, m12_, (by rw [ha.out]; exact putSel_upk 1 hb_ rfl rfl rfl), fun _ => (by (with_reducible repeat (first | refine blk_drewN ?_ _ | refine blk_drew ?_ | refine blk_alloc ?_ _)); exact BK115.out), z_HI0, (by repeat (first | (with_reducible first | exact HK.out | apply KeepBut.set_ | apply keep_drewN | apply keep_drew | apply keep_alloc | refine keep_far ?_ GW115.out _) | exact HK.out)), (by repeat (first | (with_reducible first | exact HB.out | apply below_alloc | apply pw_below_drewN | apply below_drew1 | refine below_set ?_ GE115.out) | exact HB.out)), z_HI0_e1, fun _ => (by (with_reducible repeat (first | apply Kd.R_alloc | apply Kd.R_drewN | apply Kd.R_drew)); exact HO120.out), fun _ => ⟨_, rfl⟩, z_HI0_e4, z_HI0_e8, z_HO129, Q_HA_HO129, z_HI0_e11, fun h0_ => absurd ((hoff 15 (by kernel_rfl)).symm.trans h0_) (by decide), fun h0_ => absurd ((hoff 5 (by kernel_rfl)).symm.trans h0_) (by decide), Q_X12_⟩
      refine steps_cons ?_ ?_
      ·rintro b a w' ⟨v119, adz_v119, v128, adz_v128, m5_, m12_, ha, Q_BK115, Q_HI0, Q_HK, Q_HB, Q_HI0_e1, Q_HO120, Q_HA_HO120, Q_HI0_e4, Q_HI0_e8, Q_HO129, Q_HA_HO129, Q_HI0_e11, Q_BK115_e15, Q_X5_, Q_X12_⟩ hb_ hon hoff
       refine ⟨_, rfl, fun K hK => ?_⟩
       have e6 : a.tmps[6]? = some (.pointer (some ⟨g, 0, none⟩)) := by rw [ha]; exact (putSel_off rfl).trans rfl
       replace ha := Aside0.mk ha
       have BK115 := Aside0.mk (Q_BK115 (hoff 15 (by kernel_rfl)))
       have HK := Aside0.mk Q_HK
       have HB := Aside0.mk Q_HB
       have HI0 := Aside0.mk (Q_HI0_e1 (hon 1 (by kernel_rfl)) hb_)
       refine goes_ Try.func69 (by kernel_rfl) rfl #[.pointer (some ⟨g, 0, none⟩), .int .i64 9] (by rfl) rfl rfl (by first | (simp only [List.map_toArray, List.map_cons, List.map_nil, Act.eval, Array.getD_eq_getD_getElem?, Option.getD_some, e6]; done) | (simp only [List.map_toArray, List.map_cons, List.map_nil, Act.eval, Array.getD_eq_getD_getElem?, Option.getD_some, e6]; rfl)) ?_
       with_reducible refine (spec_l6Rd_pick.calls k g s0_0 t117 9 t121 t122 w0 _ ?side1 ?side2 A3.out).mono ?_
       (case side1 => repeat (first | (with_reducible first | exact HI0.out | apply IsS145.alloc | apply IsS145.drewN | apply IsS145.drew | apply IsS145.set_1 | refine IsS145.far ?_ NB0_115.out _) | exact HI0.out))
       (case side2 => repeat (first | (with_reducible first | exact HB.out | apply below_alloc | apply pw_below_drewN | apply below_drew1 | refine below_set ?_ (IsS145.ge HI0.out) | refine below_set ?_ GE115.out) | exact HB.out))
       rintro e w14 ⟨rfl, hi, hb, hk⟩
       refine ⟨_, rfl, ?_⟩
       have n0_ := Aside0.mk (KeepBut.blk hk (g' := gb115) (o := .cells #[.int .i64 0, .int .i64 0, .int .i64 0, .int .i64 0, .int .i64 0] 102 (0, 0)) (by (with_reducible repeat (first | refine blk_drewN ?_ _ | refine blk_drew ?_ | refine blk_alloc ?_ _)); exact BK115.out) NB115_0.out (by simp))
       have n1_ := Aside0.mk (KeepBut.trans (by repeat (first | (with_reducible first | exact HK.out | apply KeepBut.set_ | apply keep_drewN | apply keep_drew | apply keep_alloc | refine keep_far ?_ GW115.out _) | exact HK.out)) hk (.inl rfl))
       have n2_ := Aside0.mk (hb)
       have n3_ := Aside0.mk (hi)
       have z_HO120 := fun (h0_ : b 2 = true) => (show Kd.R (Kd.int .i64) 3 w14 w.heap.size (fun _ => True) v119 y118 from by first | exact (Kd.R_mono (Kd.R_keep (IsS145.apart (show IsS145 w0 _ g s0_0 t117 from by repeat (first | (with_reducible first | exact HI0.out | apply IsS145.alloc | apply IsS145.drewN | apply IsS145.drew | apply IsS145.set_1 | refine IsS145.far ?_ NB0_115.out _) | exact HI0.out)) (by (with_reducible repeat (first | apply Kd.R_alloc | apply Kd.R_drewN | apply Kd.R_drew)); exact (Q_HO120 h0_)) (by decide)) hk (fun _ h => h.2)) (fun _ h => h.1)) | exact Kd.R_mono (Kd.R_mono (Kd.R_keep (IsS145.apart (show IsS145 w0 _ g s0_0 t117 from by repeat (first | (with_reducible first | exact HI0.out | apply IsS145.alloc | apply IsS145.drewN | apply IsS145.drew | apply IsS145.set_1 | refine IsS145.far ?_ NB0_115.out _) | exact HI0.out)) (by (with_reducible repeat (first | apply Kd.R_alloc | apply Kd.R_drewN | apply Kd.R_drew)); exact (Q_HO120 h0_)) (by decide)) hk (fun _ h => h.2)) (fun _ h => h.1)) (fun _ h_ => by first | trivial | exact h_ | exact h_.1))
       have z_HO129 := fun (h0_ : b 9 = true) => (show Kd.R (Kd.int .i64) 3 w14 w.heap.size (fun _ => True) v128 y127 from by first | exact (Kd.R_mono (Kd.R_keep (IsS145.apart (show IsS145 w0 _ g s0_0 t117 from by repeat (first | (with_reducible first | exact HI0.out | apply IsS145.alloc | apply IsS145.drewN | apply IsS145.drew | apply IsS145.set_1 | refine IsS145.far ?_ NB0_115.out _) | exact HI0.out)) (by (with_reducible repeat (first | apply Kd.R_alloc | apply Kd.R_drewN | apply Kd.R_drew)); exact (Q_HO129 h0_)) (by decide)) hk (fun _ h => h.2)) (fun _ h => h.1)) | exact Kd.R_mono (Kd.R_mono (Kd.R_keep (IsS145.apart (show IsS145 w0 _ g s0_0 t117 from by repeat (first | (with_reducible first | exact HI0.out | apply IsS145.alloc | apply IsS145.drewN | apply IsS145.drew | apply IsS145.set_1 | refine IsS145.far ?_ NB0_115.out _) | exact HI0.out)) (by (with_reducible repeat (first | apply Kd.R_alloc | apply Kd.R_drewN | apply Kd.R_drew)); exact (Q_HO129 h0_)) (by decide)) hk (fun _ h => h.2)) (fun _ h => h.1)) (fun _ h_ => by first | trivial | exact h_ | exact h_.1))
       clear BK115
       clear HK
       clear HB
       clear HI0
       have BK115 := n0_
       have HK := n1_
       have HB := n2_
       have HI0 := n3_
       clear n0_ n1_ n2_ n3_
       (try clear hb)
       (try clear hb2)
       (try clear hk)
       (try clear hi)
       refine hK.out _ _ ⟨v119, adz_v119, v128, adz_v128, m5_, m12_, (by rw [ha.out]; exact putSel_upk 2 hb_ rfl rfl rfl), fun _ => (by (with_reducible repeat (first | refine blk_drewN ?_ _ | refine blk_drew ?_ | refine blk_alloc ?_ _)); exact BK115.out), fun h0_ => absurd ((hon 1 (by kernel_rfl)).symm.trans h0_) (by decide), (by repeat (first | (with_reducible first | exact HK.out | apply KeepBut.set_ | apply keep_drewN | apply keep_drew | apply keep_alloc | refine keep_far ?_ GW115.out _) | exact HK.out)), (by repeat (first | (with_reducible first | exact HB.out | apply below_alloc | apply pw_below_drewN | apply below_drew1 | refine below_set ?_ (IsS145.ge HI0.out) | refine below_set ?_ GE115.out) | exact HB.out)), fun _ h1_ => absurd ((up_self b 4).symm.trans h1_) (by decide), z_HO120, Q_HA_HO120, fun _ _ => (by repeat (first | (with_reducible first | exact HI0.out | apply IsS145.alloc | apply IsS145.drewN | apply IsS145.drew | apply IsS145.set_1 | refine IsS145.far ?_ NB0_115.out _) | exact HI0.out)), fun h0_ _ => absurd ((hoff 8 (by kernel_rfl)).symm.trans h0_) (by decide), z_HO129, Q_HA_HO129, fun h0_ => absurd ((hoff 11 (by kernel_rfl)).symm.trans h0_) (by decide), fun h0_ => absurd ((hoff 15 (by kernel_rfl)).symm.trans h0_) (by decide), fun h0_ => absurd ((hoff 5 (by kernel_rfl)).symm.trans h0_) (by decide), fun h0_ => absurd ((hoff 12 (by kernel_rfl)).symm.trans h0_) (by decide)⟩
      refine steps_cons ?_ ?_
      ·rintro b a w' ⟨v119, adz_v119, v128, adz_v128, m5_, m12_, ha, Q_BK115, Q_HI0, Q_HK, Q_HB, Q_HI0_e1, Q_HO120, Q_HA_HO120, Q_HI0_e4, Q_HI0_e8, Q_HO129, Q_HA_HO129, Q_HI0_e11, Q_BK115_e15, Q_X5_, Q_X12_⟩ hb_ hon hoff
       refine ⟨_, rfl, fun K hK => ?_⟩
       have e5 : a.tmps[5]? = some (v119) := by rw [ha]; exact putSel_on (e := (2, 5, v119)) 1 rfl rfl (hon 2 (by kernel_rfl)) rfl
       have e7 : a.tmps[7]? = some (.int .i64 t121) := by rw [ha]; exact putSel_on (e := (4, 7, .int .i64 t121)) 2 rfl rfl (hon 4 (by kernel_rfl)) rfl
       replace ha := Aside0.mk ha
       have BK115 := Aside0.mk (Q_BK115 (hoff 15 (by kernel_rfl)))
       have HK := Aside0.mk Q_HK
       have HB := Aside0.mk Q_HB
       have HO120 := Aside0.mk (Q_HO120 (hon 2 (by kernel_rfl)))
       have HA_HO120 := Aside0.mk (Q_HA_HO120 (hon 2 (by kernel_rfl)))
       obtain ⟨c_, hv_⟩ := HA_HO120.out
       rw [hv_] at e5
       refine value_ (w1 := w') (v := .pointer (some (adz_v119.add (t121).toNat))) (by rfl) rfl ?_ ?_
       ·go_simp
        (try simp only [i64_w])
        try rfl
       refine hK.out _ _ ⟨v119, adz_v119, v128, adz_v128, (.pointer (some (adz_v119.add (t121).toNat))), m12_, (by rw [ha.out]; exact putSel_upk 3 hb_ rfl rfl rfl), Q_BK115, fun h0_ => absurd ((hon 1 (by kernel_rfl)).symm.trans h0_) (by decide), Q_HK, Q_HB, fun _ h1_ => absurd ((hon 4 (by kernel_rfl)).symm.trans h1_) (by decide), Q_HO120, Q_HA_HO120, Q_HI0_e4, Q_HI0_e8, Q_HO129, Q_HA_HO129, Q_HI0_e11, fun h0_ => absurd ((hoff 15 (by kernel_rfl)).symm.trans h0_) (by decide), fun _ => rfl, Q_X12_⟩
      refine steps_cons ?_ ?_
      ·rintro b a w' ⟨v119, adz_v119, v128, adz_v128, m5_, m12_, ha, Q_BK115, Q_HI0, Q_HK, Q_HB, Q_HI0_e1, Q_HO120, Q_HA_HO120, Q_HI0_e4, Q_HI0_e8, Q_HO129, Q_HA_HO129, Q_HI0_e11, Q_BK115_e15, Q_X5_, Q_X12_⟩ hb_ hon hoff
       refine ⟨_, rfl, fun K hK => ?_⟩
       have e8 : a.tmps[8]? = some (m5_) := by rw [ha]; exact putSel_on (e := (5, 8, m5_)) 3 rfl rfl (hon 5 (by kernel_rfl)) rfl
       rw [Q_X5_ (hon 5 (by kernel_rfl))] at e8
       replace ha := Aside0.mk ha
       have BK115 := Aside0.mk (Q_BK115 (hoff 15 (by kernel_rfl)))
       have HK := Aside0.mk Q_HK
       have HB := Aside0.mk Q_HB
       have HO120 := Aside0.mk (Q_HO120 (hon 2 (by kernel_rfl)))
       have HA_HO120 := Aside0.mk (Q_HA_HO120 (hon 2 (by kernel_rfl)))
       obtain ⟨c_, hv_⟩ := HA_HO120.out
       have hF_ := HO120.out
       rw [hv_] at hF_
       obtain ⟨ad_, ea_, hx_⟩ := Kd.at_int (Kd.R_reads' hF_).2.2 t121 (of_eq_true pi123) (of_eq_true qi123)
       cases ea_
       refine value_ (w1 := w') (v := .int .i64 (rd y118 t121)) (by rfl) rfl ?_ ?_
       ·go_simp
        (try simp only [i64_w])
        try rfl
       refine hK.out _ _ ⟨v119, adz_v119, v128, adz_v128, m5_, m12_, (by rw [ha.out]; exact putSel_upk 4 hb_ rfl rfl rfl), Q_BK115, fun h0_ => absurd ((hon 1 (by kernel_rfl)).symm.trans h0_) (by decide), Q_HK, Q_HB, fun _ h1_ => absurd ((hon 4 (by kernel_rfl)).symm.trans h1_) (by decide), Q_HO120, Q_HA_HO120, Q_HI0_e4, Q_HI0_e8, Q_HO129, Q_HA_HO129, Q_HI0_e11, fun h0_ => absurd ((hoff 15 (by kernel_rfl)).symm.trans h0_) (by decide), Q_X5_, Q_X12_⟩
      refine steps_cons ?_ ?_
      ·rintro b a w' ⟨v119, adz_v119, v128, adz_v128, m5_, m12_, ha, Q_BK115, Q_HI0, Q_HK, Q_HB, Q_HI0_e1, Q_HO120, Q_HA_HO120, Q_HI0_e4, Q_HI0_e8, Q_HO129, Q_HA_HO129, Q_HI0_e11, Q_BK115_e15, Q_X5_, Q_X12_⟩ hb_ hon hoff
       refine ⟨_, rfl, fun K hK => ?_⟩
       have e10 : a.tmps[10]? = some (.pointer (some ⟨g, 0, none⟩)) := by rw [ha]; exact (putSel_off rfl).trans rfl
       replace ha := Aside0.mk ha
       have BK115 := Aside0.mk (Q_BK115 (hoff 15 (by kernel_rfl)))
       have HK := Aside0.mk Q_HK
       have HB := Aside0.mk Q_HB
       have HI0 := Aside0.mk (Q_HI0_e4 (hon 4 (by kernel_rfl)) hb_)
       refine goes_ Try.func139 (by kernel_rfl) rfl #[.pointer (some ⟨g, 0, none⟩)] (by rfl) rfl rfl (by first | (simp only [List.map_toArray, List.map_cons, List.map_nil, Act.eval, Array.getD_eq_getD_getElem?, Option.getD_some, e10]; done) | (simp only [List.map_toArray, List.map_cons, List.map_nil, Act.eval, Array.getD_eq_getD_getElem?, Option.getD_some, e10]; rfl)) ?_
       with_reducible refine (spec_l71Time.calls k g s0_0 t122 t124 t125 t126 w0 _ ?side1 ?side2 A6.out).mono ?_
       (case side1 => repeat (first | (with_reducible first | exact HI0.out | apply IsS145.alloc | apply IsS145.drewN | apply IsS145.drew | apply IsS145.set_1 | refine IsS145.far ?_ NB0_115.out _) | exact HI0.out))
       (case side2 => repeat (first | (with_reducible first | exact HB.out | apply below_alloc | apply pw_below_drewN | apply below_drew1 | refine below_set ?_ (IsS145.ge HI0.out) | refine below_set ?_ GE115.out) | exact HB.out))
       rintro e w15 ⟨rfl, hi, hb, hk⟩
       refine ⟨_, rfl, ?_⟩
       have n0_ := Aside0.mk (KeepBut.blk hk (g' := gb115) (o := .cells #[.int .i64 0, .int .i64 0, .int .i64 0, .int .i64 0, .int .i64 0] 102 (0, 0)) (by (with_reducible repeat (first | refine blk_drewN ?_ _ | refine blk_drew ?_ | refine blk_alloc ?_ _)); exact BK115.out) NB115_0.out (by simp))
       have n1_ := Aside0.mk (KeepBut.trans (by repeat (first | (with_reducible first | exact HK.out | apply KeepBut.set_ | apply keep_drewN | apply keep_drew | apply keep_alloc | refine keep_far ?_ GW115.out _) | exact HK.out)) hk (.inl rfl))
       have n2_ := Aside0.mk (hb)
       have n3_ := Aside0.mk (hi)
       have z_HO120 := fun (h0_ : b 2 = true) => (show Kd.R (Kd.int .i64) 3 w15 w.heap.size (fun _ => True) v119 y118 from by first | exact (Kd.R_mono (Kd.R_keep (IsS145.apart (show IsS145 w0 _ g s0_0 t122 from by repeat (first | (with_reducible first | exact HI0.out | apply IsS145.alloc | apply IsS145.drewN | apply IsS145.drew | apply IsS145.set_1 | refine IsS145.far ?_ NB0_115.out _) | exact HI0.out)) (by (with_reducible repeat (first | apply Kd.R_alloc | apply Kd.R_drewN | apply Kd.R_drew)); exact (Q_HO120 h0_)) (by decide)) hk (fun _ h => h.2)) (fun _ h => h.1)) | exact Kd.R_mono (Kd.R_mono (Kd.R_keep (IsS145.apart (show IsS145 w0 _ g s0_0 t122 from by repeat (first | (with_reducible first | exact HI0.out | apply IsS145.alloc | apply IsS145.drewN | apply IsS145.drew | apply IsS145.set_1 | refine IsS145.far ?_ NB0_115.out _) | exact HI0.out)) (by (with_reducible repeat (first | apply Kd.R_alloc | apply Kd.R_drewN | apply Kd.R_drew)); exact (Q_HO120 h0_)) (by decide)) hk (fun _ h => h.2)) (fun _ h => h.1)) (fun _ h_ => by first | trivial | exact h_ | exact h_.1))
       have z_HO129 := fun (h0_ : b 9 = true) => (show Kd.R (Kd.int .i64) 3 w15 w.heap.size (fun _ => True) v128 y127 from by first | exact (Kd.R_mono (Kd.R_keep (IsS145.apart (show IsS145 w0 _ g s0_0 t122 from by repeat (first | (with_reducible first | exact HI0.out | apply IsS145.alloc | apply IsS145.drewN | apply IsS145.drew | apply IsS145.set_1 | refine IsS145.far ?_ NB0_115.out _) | exact HI0.out)) (by (with_reducible repeat (first | apply Kd.R_alloc | apply Kd.R_drewN | apply Kd.R_drew)); exact (Q_HO129 h0_)) (by decide)) hk (fun _ h => h.2)) (fun _ h => h.1)) | exact Kd.R_mono (Kd.R_mono (Kd.R_keep (IsS145.apart (show IsS145 w0 _ g s0_0 t122 from by repeat (first | (with_reducible first | exact HI0.out | apply IsS145.alloc | apply IsS145.drewN | apply IsS145.drew | apply IsS145.set_1 | refine IsS145.far ?_ NB0_115.out _) | exact HI0.out)) (by (with_reducible repeat (first | apply Kd.R_alloc | apply Kd.R_drewN | apply Kd.R_drew)); exact (Q_HO129 h0_)) (by decide)) hk (fun _ h => h.2)) (fun _ h => h.1)) (fun _ h_ => by first | trivial | exact h_ | exact h_.1))
       clear BK115
       clear HK
       clear HB
       clear HI0
       have BK115 := n0_
       have HK := n1_
       have HB := n2_
       have HI0 := n3_
       clear n0_ n1_ n2_ n3_
       (try clear hb)
       (try clear hb2)
       (try clear hk)
       (try clear hi)
       refine hK.out _ _ ⟨v119, adz_v119, v128, adz_v128, m5_, m12_, (by rw [ha.out]; exact putSel_upk 5 hb_ rfl rfl rfl), fun _ => (by (with_reducible repeat (first | refine blk_drewN ?_ _ | refine blk_drew ?_ | refine blk_alloc ?_ _)); exact BK115.out), fun h0_ => absurd ((hon 1 (by kernel_rfl)).symm.trans h0_) (by decide), (by repeat (first | (with_reducible first | exact HK.out | apply KeepBut.set_ | apply keep_drewN | apply keep_drew | apply keep_alloc | refine keep_far ?_ GW115.out _) | exact HK.out)), (by repeat (first | (with_reducible first | exact HB.out | apply below_alloc | apply pw_below_drewN | apply below_drew1 | refine below_set ?_ (IsS145.ge HI0.out) | refine below_set ?_ GE115.out) | exact HB.out)), fun _ h1_ => absurd ((hon 4 (by kernel_rfl)).symm.trans h1_) (by decide), z_HO120, Q_HA_HO120, fun _ h1_ => absurd ((up_self b 8).symm.trans h1_) (by decide), fun _ _ => (by repeat (first | (with_reducible first | exact HI0.out | apply IsS145.alloc | apply IsS145.drewN | apply IsS145.drew | apply IsS145.set_1 | refine IsS145.far ?_ NB0_115.out _) | exact HI0.out)), z_HO129, Q_HA_HO129, fun h0_ => absurd ((hoff 11 (by kernel_rfl)).symm.trans h0_) (by decide), fun h0_ => absurd ((hoff 15 (by kernel_rfl)).symm.trans h0_) (by decide), Q_X5_, fun h0_ => absurd ((hoff 12 (by kernel_rfl)).symm.trans h0_) (by decide)⟩
      refine steps_cons ?_ ?_
      ·rintro b a w' ⟨v119, adz_v119, v128, adz_v128, m5_, m12_, ha, Q_BK115, Q_HI0, Q_HK, Q_HB, Q_HI0_e1, Q_HO120, Q_HA_HO120, Q_HI0_e4, Q_HI0_e8, Q_HO129, Q_HA_HO129, Q_HI0_e11, Q_BK115_e15, Q_X5_, Q_X12_⟩ hb_ hon hoff
       refine ⟨_, rfl, fun K hK => ?_⟩
       replace ha := Aside0.mk ha
       have BK115 := Aside0.mk (Q_BK115 (hoff 15 (by kernel_rfl)))
       have HK := Aside0.mk Q_HK
       have HB := Aside0.mk Q_HB
       refine Kd.R_lit_step (Kd.int .i64) _ 3 ?hg (N := 12) ?hd (xs := ([1, 1, 1, 2, (-1), (-1), 3, 0] : List Int)) (inner := [.int .i64 1, .int .i64 1, .int .i64 1, .int .i64 2, .int .i64 (-1), .int .i64 (-1), .int .i64 3, .int .i64 0]) (ok := fun _ => True) (okp := fun _ => True) ?hr ?hp (fun _ hk => hk) trivial (Below.refl _ _) (Nat.le_refl _) (by simp) ?_; (case hd => rfl); (case hg => rfl); (case hr => first | (go_simp; done) | (go_simp; rfl)); (case hp => exact (Reps.one (show Kd.M (Kd.int .i64) _ _ _ 1 [.int .i64 1] from rfl) (Reps.one (show Kd.M (Kd.int .i64) _ _ _ 1 [.int .i64 1] from rfl) (Reps.one (show Kd.M (Kd.int .i64) _ _ _ 1 [.int .i64 1] from rfl) (Reps.one (show Kd.M (Kd.int .i64) _ _ _ 2 [.int .i64 2] from rfl) (Reps.one (show Kd.M (Kd.int .i64) _ _ _ (-1) [.int .i64 (-1)] from rfl) (Reps.one (show Kd.M (Kd.int .i64) _ _ _ (-1) [.int .i64 (-1)] from rfl) (Reps.one (show Kd.M (Kd.int .i64) _ _ _ 3 [.int .i64 3] from rfl) (Reps.one (show Kd.M (Kd.int .i64) _ _ _ 0 [.int .i64 0] from rfl) (Reps.none _ _))))))))))
       intro v128 w12 ho13 hb hg_ hnew_
       clear hg_ hnew_
       (first | rw [← Ny127.out] at ho13 | (simp only [Int.reduceToNat] at ho13; rw [← Ny127.out] at ho13))
       have n0_ := Aside0.mk (Kd.R_lower ho13 (keep_size (w := w) (g := g) (row := none) (by repeat (first | (with_reducible first | exact HK.out | apply KeepBut.set_ | apply keep_drewN | apply keep_drew | apply keep_alloc | refine keep_far ?_ GW115.out _) | exact HK.out))))
       have n2_ := Aside0.mk (blk_below (g := gb115) (o := .cells #[.int .i64 0, .int .i64 0, .int .i64 0, .int .i64 0, .int .i64 0] 102 (0, 0)) (by (with_reducible repeat (first | refine blk_drewN ?_ _ | refine blk_drew ?_ | refine blk_alloc ?_ _)); exact BK115.out) hb)
       have n3_ := Aside0.mk (KeepBut.trans (by repeat (first | (with_reducible first | exact HK.out | apply KeepBut.set_ | apply keep_drewN | apply keep_drew | apply keep_alloc | refine keep_far ?_ GW115.out _) | exact HK.out)) (KeepBut.of_below hb g none) (.inl rfl))
       have n4_ := Aside0.mk (below_step (by repeat (first | (with_reducible first | exact HB.out | apply below_alloc | apply pw_below_drewN | apply below_drew1 | refine below_set ?_ GE115.out) | exact HB.out)) hb)
       have z_HI0 := fun (h0_ : b 1 = false) => (show IsS145 w0 w12 g s0_0 s0_1 from by first | exact (IsS145.below (by repeat (first | (with_reducible first | exact (Q_HI0 h0_) | apply IsS145.alloc | apply IsS145.drewN | apply IsS145.drew | apply IsS145.set_1 | refine IsS145.far ?_ NB0_115.out _) | exact (Q_HI0 h0_))) hb))
       have z_HI0_e1 := fun (h0_ : b 1 = true) (h1_ : b 4 = false) => (show IsS145 w0 w12 g s0_0 t117 from by first | exact (IsS145.below (by repeat (first | (with_reducible first | exact (Q_HI0_e1 h0_ h1_) | apply IsS145.alloc | apply IsS145.drewN | apply IsS145.drew | apply IsS145.set_1 | refine IsS145.far ?_ NB0_115.out _) | exact (Q_HI0_e1 h0_ h1_))) hb))
       have z_HO120 := fun (h0_ : b 2 = true) => (show Kd.R (Kd.int .i64) 3 w12 w.heap.size (fun _ => True) v119 y118 from by first | exact (Kd.R_elder' (by (with_reducible repeat (first | apply Kd.R_alloc | apply Kd.R_drewN | apply Kd.R_drew)); exact (Q_HO120 h0_)) (Kd.R_base ho13) hb) | exact Kd.R_mono (Kd.R_elder' (by (with_reducible repeat (first | apply Kd.R_alloc | apply Kd.R_drewN | apply Kd.R_drew)); exact (Q_HO120 h0_)) (Kd.R_base ho13) hb) (fun _ h_ => by first | trivial | exact h_ | exact h_.1))
       have z_HI0_e4 := fun (h0_ : b 4 = true) (h1_ : b 8 = false) => (show IsS145 w0 w12 g s0_0 t122 from by first | exact (IsS145.below (by repeat (first | (with_reducible first | exact (Q_HI0_e4 h0_ h1_) | apply IsS145.alloc | apply IsS145.drewN | apply IsS145.drew | apply IsS145.set_1 | refine IsS145.far ?_ NB0_115.out _) | exact (Q_HI0_e4 h0_ h1_))) hb))
       have z_HI0_e8 := fun (h0_ : b 8 = true) (h1_ : b 11 = false) => (show IsS145 w0 w12 g s0_0 t126 from by first | exact (IsS145.below (by repeat (first | (with_reducible first | exact (Q_HI0_e8 h0_ h1_) | apply IsS145.alloc | apply IsS145.drewN | apply IsS145.drew | apply IsS145.set_1 | refine IsS145.far ?_ NB0_115.out _) | exact (Q_HI0_e8 h0_ h1_))) hb))
       have z_HI0_e11 := fun (h0_ : b 11 = true) => (show IsS145 w0 w12 g s0_0 t131 from by first | exact (IsS145.below (by repeat (first | (with_reducible first | exact (Q_HI0_e11 h0_) | apply IsS145.alloc | apply IsS145.drewN | apply IsS145.drew | apply IsS145.set_1 | refine IsS145.far ?_ NB0_115.out _) | exact (Q_HI0_e11 h0_))) hb))
       clear BK115
       clear HK
       clear HB
       have HO129 := n0_
       have BK115 := n2_
       have HK := n3_
       have HB := n4_
       clear n0_ n2_ n3_ n4_
       clear hb ho13
       obtain ⟨Ao14, co14, eo14⟩ := Kd.R_slice HO129.out
       subst eo14
       obtain ⟨ado14, fo14, _⟩ := Kd.at_int (Kd.R_reads' HO129.out).2.2 0 (by decide) (by rw [Ny127.out]; simp)
       cases fo14
       refine hK.out _ _ ⟨v119, adz_v119, .slice (some ado14) y127.length co14, ado14, m5_, m12_, (by rw [ha.out]; exact putSel_upk 6 hb_ rfl rfl rfl), fun _ => (by (with_reducible repeat (first | refine blk_drewN ?_ _ | refine blk_drew ?_ | refine blk_alloc ?_ _)); exact BK115.out), z_HI0, (by repeat (first | (with_reducible first | exact HK.out | apply KeepBut.set_ | apply keep_drewN | apply keep_drew | apply keep_alloc | refine keep_far ?_ GW115.out _) | exact HK.out)), (by repeat (first | (with_reducible first | exact HB.out | apply below_alloc | apply pw_below_drewN | apply below_drew1 | refine below_set ?_ GE115.out) | exact HB.out)), z_HI0_e1, z_HO120, Q_HA_HO120, z_HI0_e4, z_HI0_e8, fun _ => (by (with_reducible repeat (first | apply Kd.R_alloc | apply Kd.R_drewN | apply Kd.R_drew)); exact HO129.out), fun _ => ⟨_, rfl⟩, z_HI0_e11, fun h0_ => absurd ((hoff 15 (by kernel_rfl)).symm.trans h0_) (by decide), Q_X5_, fun h0_ => absurd ((hoff 12 (by kernel_rfl)).symm.trans h0_) (by decide)⟩
      refine steps_cons ?_ ?_
      ·rintro b a w' ⟨v119, adz_v119, v128, adz_v128, m5_, m12_, ha, Q_BK115, Q_HI0, Q_HK, Q_HB, Q_HI0_e1, Q_HO120, Q_HA_HO120, Q_HI0_e4, Q_HI0_e8, Q_HO129, Q_HA_HO129, Q_HI0_e11, Q_BK115_e15, Q_X5_, Q_X12_⟩ hb_ hon hoff
       refine ⟨_, rfl, fun K hK => ?_⟩
       have e13 : a.tmps[13]? = some (.pointer (some ⟨g, 0, none⟩)) := by rw [ha]; exact (putSel_off rfl).trans rfl
       replace ha := Aside0.mk ha
       have BK115 := Aside0.mk (Q_BK115 (hoff 15 (by kernel_rfl)))
       have HK := Aside0.mk Q_HK
       have HB := Aside0.mk Q_HB
       have HI0 := Aside0.mk (Q_HI0_e8 (hon 8 (by kernel_rfl)) hb_)
       refine goes_ Try.func69 (by kernel_rfl) rfl #[.pointer (some ⟨g, 0, none⟩), .int .i64 8] (by rfl) rfl rfl (by first | (simp only [List.map_toArray, List.map_cons, List.map_nil, Act.eval, Array.getD_eq_getD_getElem?, Option.getD_some, e13]; done) | (simp only [List.map_toArray, List.map_cons, List.map_nil, Act.eval, Array.getD_eq_getD_getElem?, Option.getD_some, e13]; rfl)) ?_
       with_reducible refine (spec_l6Rd_pick.calls k g s0_0 t126 8 t130 t131 w0 _ ?side1 ?side2 A7.out).mono ?_
       (case side1 => repeat (first | (with_reducible first | exact HI0.out | apply IsS145.alloc | apply IsS145.drewN | apply IsS145.drew | apply IsS145.set_1 | refine IsS145.far ?_ NB0_115.out _) | exact HI0.out))
       (case side2 => repeat (first | (with_reducible first | exact HB.out | apply below_alloc | apply pw_below_drewN | apply below_drew1 | refine below_set ?_ (IsS145.ge HI0.out) | refine below_set ?_ GE115.out) | exact HB.out))
       rintro e w16 ⟨rfl, hi, hb, hk⟩
       refine ⟨_, rfl, ?_⟩
       have n0_ := Aside0.mk (KeepBut.blk hk (g' := gb115) (o := .cells #[.int .i64 0, .int .i64 0, .int .i64 0, .int .i64 0, .int .i64 0] 102 (0, 0)) (by (with_reducible repeat (first | refine blk_drewN ?_ _ | refine blk_drew ?_ | refine blk_alloc ?_ _)); exact BK115.out) NB115_0.out (by simp))
       have n1_ := Aside0.mk (KeepBut.trans (by repeat (first | (with_reducible first | exact HK.out | apply KeepBut.set_ | apply keep_drewN | apply keep_drew | apply keep_alloc | refine keep_far ?_ GW115.out _) | exact HK.out)) hk (.inl rfl))
       have n2_ := Aside0.mk (hb)
       have n3_ := Aside0.mk (hi)
       have z_HO120 := fun (h0_ : b 2 = true) => (show Kd.R (Kd.int .i64) 3 w16 w.heap.size (fun _ => True) v119 y118 from by first | exact (Kd.R_mono (Kd.R_keep (IsS145.apart (show IsS145 w0 _ g s0_0 t126 from by repeat (first | (with_reducible first | exact HI0.out | apply IsS145.alloc | apply IsS145.drewN | apply IsS145.drew | apply IsS145.set_1 | refine IsS145.far ?_ NB0_115.out _) | exact HI0.out)) (by (with_reducible repeat (first | apply Kd.R_alloc | apply Kd.R_drewN | apply Kd.R_drew)); exact (Q_HO120 h0_)) (by decide)) hk (fun _ h => h.2)) (fun _ h => h.1)) | exact Kd.R_mono (Kd.R_mono (Kd.R_keep (IsS145.apart (show IsS145 w0 _ g s0_0 t126 from by repeat (first | (with_reducible first | exact HI0.out | apply IsS145.alloc | apply IsS145.drewN | apply IsS145.drew | apply IsS145.set_1 | refine IsS145.far ?_ NB0_115.out _) | exact HI0.out)) (by (with_reducible repeat (first | apply Kd.R_alloc | apply Kd.R_drewN | apply Kd.R_drew)); exact (Q_HO120 h0_)) (by decide)) hk (fun _ h => h.2)) (fun _ h => h.1)) (fun _ h_ => by first | trivial | exact h_ | exact h_.1))
       have z_HO129 := fun (h0_ : b 9 = true) => (show Kd.R (Kd.int .i64) 3 w16 w.heap.size (fun _ => True) v128 y127 from by first | exact (Kd.R_mono (Kd.R_keep (IsS145.apart (show IsS145 w0 _ g s0_0 t126 from by repeat (first | (with_reducible first | exact HI0.out | apply IsS145.alloc | apply IsS145.drewN | apply IsS145.drew | apply IsS145.set_1 | refine IsS145.far ?_ NB0_115.out _) | exact HI0.out)) (by (with_reducible repeat (first | apply Kd.R_alloc | apply Kd.R_drewN | apply Kd.R_drew)); exact (Q_HO129 h0_)) (by decide)) hk (fun _ h => h.2)) (fun _ h => h.1)) | exact Kd.R_mono (Kd.R_mono (Kd.R_keep (IsS145.apart (show IsS145 w0 _ g s0_0 t126 from by repeat (first | (with_reducible first | exact HI0.out | apply IsS145.alloc | apply IsS145.drewN | apply IsS145.drew | apply IsS145.set_1 | refine IsS145.far ?_ NB0_115.out _) | exact HI0.out)) (by (with_reducible repeat (first | apply Kd.R_alloc | apply Kd.R_drewN | apply Kd.R_drew)); exact (Q_HO129 h0_)) (by decide)) hk (fun _ h => h.2)) (fun _ h => h.1)) (fun _ h_ => by first | trivial | exact h_ | exact h_.1))
       clear BK115
       clear HK
       clear HB
       clear HI0
       have BK115 := n0_
       have HK := n1_
       have HB := n2_
       have HI0 := n3_
       clear n0_ n1_ n2_ n3_
       (try clear hb)
       (try clear hb2)
       (try clear hk)
       (try clear hi)
       refine hK.out _ _ ⟨v119, adz_v119, v128, adz_v128, m5_, m12_, (by rw [ha.out]; exact putSel_upk 7 hb_ rfl rfl rfl), fun _ => (by (with_reducible repeat (first | refine blk_drewN ?_ _ | refine blk_drew ?_ | refine blk_alloc ?_ _)); exact BK115.out), fun h0_ => absurd ((hon 1 (by kernel_rfl)).symm.trans h0_) (by decide), (by repeat (first | (with_reducible first | exact HK.out | apply KeepBut.set_ | apply keep_drewN | apply keep_drew | apply keep_alloc | refine keep_far ?_ GW115.out _) | exact HK.out)), (by repeat (first | (with_reducible first | exact HB.out | apply below_alloc | apply pw_below_drewN | apply below_drew1 | refine below_set ?_ (IsS145.ge HI0.out) | refine below_set ?_ GE115.out) | exact HB.out)), fun _ h1_ => absurd ((hon 4 (by kernel_rfl)).symm.trans h1_) (by decide), z_HO120, Q_HA_HO120, fun _ h1_ => absurd ((hon 8 (by kernel_rfl)).symm.trans h1_) (by decide), fun _ h1_ => absurd ((up_self b 11).symm.trans h1_) (by decide), z_HO129, Q_HA_HO129, fun _ => (by repeat (first | (with_reducible first | exact HI0.out | apply IsS145.alloc | apply IsS145.drewN | apply IsS145.drew | apply IsS145.set_1 | refine IsS145.far ?_ NB0_115.out _) | exact HI0.out)), fun h0_ => absurd ((hoff 15 (by kernel_rfl)).symm.trans h0_) (by decide), Q_X5_, fun h0_ => absurd ((hoff 12 (by kernel_rfl)).symm.trans h0_) (by decide)⟩
      refine steps_cons ?_ ?_
      ·rintro b a w' ⟨v119, adz_v119, v128, adz_v128, m5_, m12_, ha, Q_BK115, Q_HI0, Q_HK, Q_HB, Q_HI0_e1, Q_HO120, Q_HA_HO120, Q_HI0_e4, Q_HI0_e8, Q_HO129, Q_HA_HO129, Q_HI0_e11, Q_BK115_e15, Q_X5_, Q_X12_⟩ hb_ hon hoff
       refine ⟨_, rfl, fun K hK => ?_⟩
       have e12 : a.tmps[12]? = some (v128) := by rw [ha]; exact putSel_on (e := (9, 12, v128)) 6 rfl rfl (hon 9 (by kernel_rfl)) rfl
       have e14 : a.tmps[14]? = some (.int .i64 t130) := by rw [ha]; exact putSel_on (e := (11, 14, .int .i64 t130)) 7 rfl rfl (hon 11 (by kernel_rfl)) rfl
       replace ha := Aside0.mk ha
       have BK115 := Aside0.mk (Q_BK115 (hoff 15 (by kernel_rfl)))
       have HK := Aside0.mk Q_HK
       have HB := Aside0.mk Q_HB
       have HO129 := Aside0.mk (Q_HO129 (hon 9 (by kernel_rfl)))
       have HA_HO129 := Aside0.mk (Q_HA_HO129 (hon 9 (by kernel_rfl)))
       have HI0 := Aside0.mk (Q_HI0_e11 (hon 11 (by kernel_rfl)))
       obtain ⟨c_, hv_⟩ := HA_HO129.out
       rw [hv_] at e12
       refine value_ (w1 := w') (v := .pointer (some (adz_v128.add (t130).toNat))) (by rfl) rfl ?_ ?_
       ·go_simp
        (try simp only [i64_w])
        try rfl
       refine hK.out _ _ ⟨v119, adz_v119, v128, adz_v128, m5_, (.pointer (some (adz_v128.add (t130).toNat))), (by rw [ha.out]; exact putSel_upk 8 hb_ rfl rfl rfl), Q_BK115, fun h0_ => absurd ((hon 1 (by kernel_rfl)).symm.trans h0_) (by decide), Q_HK, Q_HB, fun _ h1_ => absurd ((hon 4 (by kernel_rfl)).symm.trans h1_) (by decide), Q_HO120, Q_HA_HO120, fun _ h1_ => absurd ((hon 8 (by kernel_rfl)).symm.trans h1_) (by decide), fun _ h1_ => absurd ((hon 11 (by kernel_rfl)).symm.trans h1_) (by decide), Q_HO129, Q_HA_HO129, Q_HI0_e11, fun h0_ => absurd ((hoff 15 (by kernel_rfl)).symm.trans h0_) (by decide), Q_X5_, fun _ => rfl⟩
      refine steps_cons ?_ ?_
      ·rintro b a w' ⟨v119, adz_v119, v128, adz_v128, m5_, m12_, ha, Q_BK115, Q_HI0, Q_HK, Q_HB, Q_HI0_e1, Q_HO120, Q_HA_HO120, Q_HI0_e4, Q_HI0_e8, Q_HO129, Q_HA_HO129, Q_HI0_e11, Q_BK115_e15, Q_X5_, Q_X12_⟩ hb_ hon hoff
       refine ⟨_, rfl, fun K hK => ?_⟩
       have e15 : a.tmps[15]? = some (m12_) := by rw [ha]; exact putSel_on (e := (12, 15, m12_)) 8 rfl rfl (hon 12 (by kernel_rfl)) rfl
       rw [Q_X12_ (hon 12 (by kernel_rfl))] at e15
       replace ha := Aside0.mk ha
       have BK115 := Aside0.mk (Q_BK115 (hoff 15 (by kernel_rfl)))
       have HK := Aside0.mk Q_HK
       have HB := Aside0.mk Q_HB
       have HO129 := Aside0.mk (Q_HO129 (hon 9 (by kernel_rfl)))
       have HA_HO129 := Aside0.mk (Q_HA_HO129 (hon 9 (by kernel_rfl)))
       have HI0 := Aside0.mk (Q_HI0_e11 (hon 11 (by kernel_rfl)))
       obtain ⟨c_, hv_⟩ := HA_HO129.out
       have hF_ := HO129.out
       rw [hv_] at hF_
       obtain ⟨ad_, ea_, hx_⟩ := Kd.at_int (Kd.R_reads' hF_).2.2 t130 (of_eq_true pi132) (of_eq_true qi132)
       cases ea_
       refine value_ (w1 := w') (v := .int .i64 (rd y127 t130)) (by rfl) rfl ?_ ?_
       ·go_simp
        (try simp only [i64_w])
        try rfl
       refine hK.out _ _ ⟨v119, adz_v119, v128, adz_v128, m5_, m12_, (by rw [ha.out]; exact putSel_upk 9 hb_ rfl rfl rfl), Q_BK115, fun h0_ => absurd ((hon 1 (by kernel_rfl)).symm.trans h0_) (by decide), Q_HK, Q_HB, fun _ h1_ => absurd ((hon 4 (by kernel_rfl)).symm.trans h1_) (by decide), Q_HO120, Q_HA_HO120, fun _ h1_ => absurd ((hon 8 (by kernel_rfl)).symm.trans h1_) (by decide), fun _ h1_ => absurd ((hon 11 (by kernel_rfl)).symm.trans h1_) (by decide), Q_HO129, Q_HA_HO129, Q_HI0_e11, fun h0_ => absurd ((hoff 15 (by kernel_rfl)).symm.trans h0_) (by decide), Q_X5_, Q_X12_⟩
      refine steps_cons ?_ ?_
      ·rintro b a w' ⟨v119, adz_v119, v128, adz_v128, m5_, m12_, ha, Q_BK115, Q_HI0, Q_HK, Q_HB, Q_HI0_e1, Q_HO120, Q_HA_HO120, Q_HI0_e4, Q_HI0_e8, Q_HO129, Q_HA_HO129, Q_HI0_e11, Q_BK115_e15, Q_X5_, Q_X12_⟩ hb_ hon hoff
       refine ⟨_, rfl, fun K hK => ?_⟩
       have e4 : a.tmps[4]? = some (.int .i64 t116) := by rw [ha]; exact putSel_on (e := (1, 4, .int .i64 t116)) 0 rfl rfl (hon 1 (by kernel_rfl)) rfl
       have e9 : a.tmps[9]? = some (.int .i64 (rd y118 t121)) := by rw [ha]; exact putSel_on (e := (6, 9, .int .i64 (rd y118 t121))) 4 rfl rfl (hon 6 (by kernel_rfl)) rfl
       have e11 : a.tmps[11]? = some (.agg #[.int .i64 t124, .int .i64 t125]) := by rw [ha]; exact putSel_on (e := (8, 11, .agg #[.int .i64 t124, .int .i64 t125])) 5 rfl rfl (hon 8 (by kernel_rfl)) rfl
       have e16 : a.tmps[16]? = some (.int .i64 (rd y127 t130)) := by rw [ha]; exact putSel_on (e := (13, 16, .int .i64 (rd y127 t130))) 9 rfl rfl (hon 13 (by kernel_rfl)) rfl
       replace ha := Aside0.mk ha
       have BK115 := Aside0.mk (Q_BK115 (hoff 15 (by kernel_rfl)))
       have HK := Aside0.mk Q_HK
       have HB := Aside0.mk Q_HB
       have HO120 := Aside0.mk (Q_HO120 (hon 2 (by kernel_rfl)))
       have HA_HO120 := Aside0.mk (Q_HA_HO120 (hon 2 (by kernel_rfl)))
       have HO129 := Aside0.mk (Q_HO129 (hon 9 (by kernel_rfl)))
       have HA_HO129 := Aside0.mk (Q_HA_HO129 (hon 9 (by kernel_rfl)))
       have HI0 := Aside0.mk (Q_HI0_e11 (hon 11 (by kernel_rfl)))
       refine value_ (w1 := w') (v := .agg #[.int .i64 t116, .int .i64 (rd y118 t121), .int .i64 t124, .int .i64 t125, .int .i64 (rd y127 t130)]) (by rfl) rfl ?_ ?_
       ·go_simp
        (try simp only [i64_w])
        try rfl
       refine hK.out _ _ ⟨v119, adz_v119, v128, adz_v128, m5_, m12_, (by rw [ha.out]; exact putSel_upk 10 hb_ rfl rfl rfl), Q_BK115, fun h0_ => absurd ((hon 1 (by kernel_rfl)).symm.trans h0_) (by decide), Q_HK, Q_HB, fun _ h1_ => absurd ((hon 4 (by kernel_rfl)).symm.trans h1_) (by decide), Q_HO120, Q_HA_HO120, fun _ h1_ => absurd ((hon 8 (by kernel_rfl)).symm.trans h1_) (by decide), fun _ h1_ => absurd ((hon 11 (by kernel_rfl)).symm.trans h1_) (by decide), Q_HO129, Q_HA_HO129, Q_HI0_e11, fun h0_ => absurd ((hoff 15 (by kernel_rfl)).symm.trans h0_) (by decide), Q_X5_, Q_X12_⟩
      refine steps_cons ?_ ?_
      ·rintro b a w' ⟨v119, adz_v119, v128, adz_v128, m5_, m12_, ha, Q_BK115, Q_HI0, Q_HK, Q_HB, Q_HI0_e1, Q_HO120, Q_HA_HO120, Q_HI0_e4, Q_HI0_e8, Q_HO129, Q_HA_HO129, Q_HI0_e11, Q_BK115_e15, Q_X5_, Q_X12_⟩ hb_ hon hoff
       refine ⟨_, rfl, fun K hK => ?_⟩
       have e2 : a.tmps[2]? = some (.pointer (some ⟨gb115, 0, none⟩)) := by rw [ha]; exact (putSel_off rfl).trans rfl
       have e17 : a.tmps[17]? = some (.agg #[.int .i64 t116, .int .i64 (rd y118 t121), .int .i64 t124, .int .i64 t125, .int .i64 (rd y127 t130)]) := by rw [ha]; exact putSel_on (e := (14, 17, .agg #[.int .i64 t116, .int .i64 (rd y118 t121), .int .i64 t124, .int .i64 t125, .int .i64 (rd y127 t130)])) 10 rfl rfl (hon 14 (by kernel_rfl)) rfl
       replace ha := Aside0.mk ha
       have BK115 := Aside0.mk (Q_BK115 hb_)
       have HK := Aside0.mk Q_HK
       have HB := Aside0.mk Q_HB
       have HO120 := Aside0.mk (Q_HO120 (hon 2 (by kernel_rfl)))
       have HA_HO120 := Aside0.mk (Q_HA_HO120 (hon 2 (by kernel_rfl)))
       have HO129 := Aside0.mk (Q_HO129 (hon 9 (by kernel_rfl)))
       have HA_HO129 := Aside0.mk (Q_HA_HO129 (hon 9 (by kernel_rfl)))
       have HI0 := Aside0.mk (Q_HI0_e11 (hon 11 (by kernel_rfl)))
       obtain ⟨co23, eo23⟩ := HA_HO120.out
       clear HA_HO120
       subst eo23
       obtain ⟨co24, eo24⟩ := HA_HO129.out
       clear HA_HO129
       subst eo24
       have hs25 : w'.cell? ⟨gb115, 0, none⟩ = some (.int .i64 0) := (blk_cell BK115.out 0).trans rfl
       have hfs25 := blk_frozen BK115.out 0
       have hs26 : w'.cell? ⟨gb115, 1, none⟩ = some (.int .i64 0) := (blk_cell BK115.out 1).trans rfl
       have hfs26 := blk_frozen BK115.out 1
       have hs27 : w'.cell? ⟨gb115, 2, none⟩ = some (.int .i64 0) := (blk_cell BK115.out 2).trans rfl
       have hfs27 := blk_frozen BK115.out 2
       have hs28 : w'.cell? ⟨gb115, 3, none⟩ = some (.int .i64 0) := (blk_cell BK115.out 3).trans rfl
       have hfs28 := blk_frozen BK115.out 3
       have hs29 : w'.cell? ⟨gb115, 4, none⟩ = some (.int .i64 0) := (blk_cell BK115.out 4).trans rfl
       have hfs29 := blk_frozen BK115.out 4
       refine skip_ (w1 := ?_) (by rfl) rfl ?_ ?_
       rotate_left
       ·go_simp
        rfl
       refine hK.out _ _ ⟨.slice (some adz_v119) y118.length co23, adz_v119, .slice (some adz_v128) y127.length co24, adz_v128, m5_, m12_, (by rw [ha.out]; exact putSel_none (v := undef) rfl), fun h0_ => absurd ((up_self b 15).symm.trans h0_) (by decide), fun h0_ => absurd ((hon 1 (by kernel_rfl)).symm.trans h0_) (by decide), (by repeat (first | (with_reducible first | exact HK.out | apply KeepBut.set_ | apply keep_drewN | apply keep_drew | apply keep_alloc | refine keep_far ?_ GW115.out _) | exact HK.out)), (by repeat (first | (with_reducible first | exact HB.out | apply below_alloc | apply pw_below_drewN | apply below_drew1 | refine below_set ?_ (IsS145.ge HI0.out) | refine below_set ?_ GE115.out) | exact HB.out)), fun _ h1_ => absurd ((hon 4 (by kernel_rfl)).symm.trans h1_) (by decide), fun _ => (by (with_reducible repeat (first | apply Kd.R_alloc | apply Kd.R_drewN | apply Kd.R_drew)); exact Kd.R_mono (Kd.R_far (p := ⟨gb115, 4, none⟩) (Kd.R_far (p := ⟨gb115, 3, none⟩) (Kd.R_far (p := ⟨gb115, 2, none⟩) (Kd.R_far (p := ⟨gb115, 1, none⟩) (Kd.R_far (p := ⟨gb115, 0, none⟩) (Kd.R_types HO120.out BK115.out (by decide)) (fun _ hk => hk.2) (.int .i64 t116)) (fun _ hk => hk.2) (.int .i64 (rd y118 t121))) (fun _ hk => hk.2) (.int .i64 t124)) (fun _ hk => hk.2) (.int .i64 t125)) (fun _ hk => hk.2) (.int .i64 (rd y127 t130))) (fun _ hk => hk.1)), fun _ => ⟨_, rfl⟩, fun _ h1_ => absurd ((hon 8 (by kernel_rfl)).symm.trans h1_) (by decide), fun _ h1_ => absurd ((hon 11 (by kernel_rfl)).symm.trans h1_) (by decide), fun _ => (by (with_reducible repeat (first | apply Kd.R_alloc | apply Kd.R_drewN | apply Kd.R_drew)); exact Kd.R_mono (Kd.R_far (p := ⟨gb115, 4, none⟩) (Kd.R_far (p := ⟨gb115, 3, none⟩) (Kd.R_far (p := ⟨gb115, 2, none⟩) (Kd.R_far (p := ⟨gb115, 1, none⟩) (Kd.R_far (p := ⟨gb115, 0, none⟩) (Kd.R_types HO129.out BK115.out (by decide)) (fun _ hk => hk.2) (.int .i64 t116)) (fun _ hk => hk.2) (.int .i64 (rd y118 t121))) (fun _ hk => hk.2) (.int .i64 t124)) (fun _ hk => hk.2) (.int .i64 t125)) (fun _ hk => hk.2) (.int .i64 (rd y127 t130))) (fun _ hk => hk.1)), fun _ => ⟨_, rfl⟩, fun _ => (by repeat (first | (with_reducible first | exact HI0.out | apply IsS145.alloc | apply IsS145.drewN | apply IsS145.drew | apply IsS145.set_1 | refine IsS145.far ?_ NB0_115.out _) | exact HI0.out)), fun _ => (by (with_reducible repeat (first | refine blk_drewN ?_ _ | refine blk_drew ?_ | refine blk_alloc ?_ _)); refine blk_put (cs := #[.int .i64 t116, .int .i64 (rd y118 t121), .int .i64 t124, .int .i64 t125, .int .i64 0]) ?_ 4 _ rfl; (with_reducible repeat (first | refine blk_drewN ?_ _ | refine blk_drew ?_ | refine blk_alloc ?_ _)); refine blk_put (cs := #[.int .i64 t116, .int .i64 (rd y118 t121), .int .i64 t124, .int .i64 0, .int .i64 0]) ?_ 3 _ rfl; (with_reducible repeat (first | refine blk_drewN ?_ _ | refine blk_drew ?_ | refine blk_alloc ?_ _)); refine blk_put (cs := #[.int .i64 t116, .int .i64 (rd y118 t121), .int .i64 0, .int .i64 0, .int .i64 0]) ?_ 2 _ rfl; (with_reducible repeat (first | refine blk_drewN ?_ _ | refine blk_drew ?_ | refine blk_alloc ?_ _)); refine blk_put (cs := #[.int .i64 t116, .int .i64 0, .int .i64 0, .int .i64 0, .int .i64 0]) ?_ 1 _ rfl; (with_reducible repeat (first | refine blk_drewN ?_ _ | refine blk_drew ?_ | refine blk_alloc ?_ _)); refine blk_put (cs := #[.int .i64 0, .int .i64 0, .int .i64 0, .int .i64 0, .int .i64 0]) ?_ 0 _ rfl; (with_reducible repeat (first | refine blk_drewN ?_ _ | refine blk_drew ?_ | refine blk_alloc ?_ _)); exact BK115.out), Q_X5_, Q_X12_⟩
      exact steps_nil
     rintro b a w27 hall ⟨v119, adz_v119, v128, adz_v128, m5_, m12_, ha, Q_BK115, Q_HI0, Q_HK, Q_HB, Q_HI0_e1, Q_HO120, Q_HA_HO120, Q_HI0_e4, Q_HI0_e8, Q_HO129, Q_HA_HO129, Q_HI0_e11, Q_BK115_e15, Q_X5_, Q_X12_⟩
     clear BK115 HB HI0 HK
     have hb1_ := hall 1 (by kernel_rfl)
     have hb2_ := hall 2 (by kernel_rfl)
     have hb4_ := hall 4 (by kernel_rfl)
     have hb5_ := hall 5 (by kernel_rfl)
     have hb6_ := hall 6 (by kernel_rfl)
     have hb8_ := hall 8 (by kernel_rfl)
     have hb9_ := hall 9 (by kernel_rfl)
     have hb11_ := hall 11 (by kernel_rfl)
     have hb12_ := hall 12 (by kernel_rfl)
     have hb13_ := hall 13 (by kernel_rfl)
     have hb14_ := hall 14 (by kernel_rfl)
     have hb15_ := hall 15 (by kernel_rfl)
     subst ha
     obtain rfl := Q_X5_ hb5_
     obtain rfl := Q_X12_ hb12_
     simp only [putSel, hb1_, hb2_, hb4_, hb5_, hb6_, hb8_, hb9_, hb11_, hb12_, hb13_, hb14_, hb15_, if_true, Act.put, List.setIfInBounds_toArray, List.set_cons_zero, List.set_cons_succ]
     clear Q_BK115
     clear Q_HI0
     have HK := Aside0.mk Q_HK
     clear Q_HK
     have HB := Aside0.mk Q_HB
     clear Q_HB
     clear Q_HI0_e1
     have HO120 := Aside0.mk (Q_HO120 hb2_)
     clear Q_HO120
     have HA_HO120 := Aside0.mk (Q_HA_HO120 hb2_)
     clear Q_HA_HO120
     clear Q_HI0_e4
     clear Q_HI0_e8
     have HO129 := Aside0.mk (Q_HO129 hb9_)
     clear Q_HO129
     have HA_HO129 := Aside0.mk (Q_HA_HO129 hb9_)
     clear Q_HA_HO129
     have HI0 := Aside0.mk (Q_HI0_e11 hb11_)
     clear Q_HI0_e11
     have BK115 := Aside0.mk (Q_BK115_e15 hb15_)
     clear Q_BK115_e15
     clear hall hb1_ hb2_ hb4_ hb5_ hb6_ hb8_ hb9_ hb11_ hb12_ hb13_ hb14_ hb15_
     obtain ⟨co28, eo28⟩ := HA_HO120.out
     clear HA_HO120
     subst eo28
     obtain ⟨co29, eo29⟩ := HA_HO129.out
     clear HA_HO129
     subst eo29
     try go_wp2
     refine bodyPost_ret (results_cell_row rfl _ _ gb115 102 #[.int .i64 t116, .int .i64 (rd y118 t121), .int .i64 t124, .int .i64 t125, .int .i64 (rd y127 t130)] (0, 0) _ rfl (by (with_reducible repeat (first | refine blk_drewN ?_ _ | refine blk_drew ?_ | refine blk_alloc ?_ _)); exact BK115.out) Try.underlying102 rfl (by kernel_rfl)) rfl ?_
     exact ⟨by first | rfl | (simp [errW_none, errW_some] <;> rfl) | (simp [*, errW_none, errW_some] <;> rfl), by repeat (first | (with_reducible first | exact HI0.out | apply IsS145.alloc | apply IsS145.drewN | apply IsS145.drew | apply IsS145.set_1 | refine IsS145.far ?_ NB0_115.out _) | exact HI0.out), by repeat (first | (with_reducible first | exact HB.out | apply below_alloc | apply pw_below_drewN | apply below_drew1 | refine below_set ?_ (IsS145.ge HI0.out) | refine below_set ?_ GE115.out) | exact HB.out), by repeat (first | (with_reducible first | exact HK.out | apply KeepBut.set_ | apply keep_drewN | apply keep_drew | apply keep_alloc | refine keep_far ?_ GW115.out _) | exact HK.out)⟩
    ·rw [if_neg c9] at H
     exact absurd H (by simp)
   ·rw [if_neg c8] at H
    exact absurd H (by simp)
  ·rw [if_neg c5] at H
   exact absurd H (by simp)
 ·rw [if_neg c4] at H
  exact absurd H (by simp)
end Go.Proofs.Ytkdendlgaaimbaa.PDraw
