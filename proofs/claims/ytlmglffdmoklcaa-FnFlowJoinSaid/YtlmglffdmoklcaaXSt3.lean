/- The walks of what maps and filters a collection. Conditions: none. -/
import Derived.Test.YtlmglffdmoklcaaXSt2
import Derived.OwnWalk
namespace Go.Proofs.Ytlmglffdmoklcaa.X
open Go.RowKit Go.Proofs.YtlmglffdmoklcaaW.PrintWords
set_option linter.unusedVariables false
set_option linter.unusedSimpArgs false

/-- what each answers: key, value, kept -/
def each3 (a b how : Int) : Int × Int × Bool :=
  if how = 1 then (b % 4, b - b % 4 + a, true) else if how = 2 then (a, (b + 1) % 100, true) else if how = 3 then (b % 4, b, true) else if how = 4 then (0, b, true)
  else if how = 5 then (a, b, decide (b % 2 = 0)) else if how = 6 then (a, b, decide (a % 2 = 0)) else (a, b, decide (b < 10))
theorem each3_kv {a b how : Int} (h0 : 1 ≤ how) (h1 : how ≤ 7) : eachKV a b how = if (each3 a b how).2.2 = true then some ((each3 a b how).1, (each3 a b how).2.1) else none := by
  unfold eachKV each3
  by_cases e1 : how = 1
  · simp [e1]
  by_cases e2 : how = 2
  · simp [e2]
  by_cases e3 : how = 3
  · simp [e3]
  by_cases e4 : how = 4
  · simp [e4]
  by_cases e5 : how = 5
  · simp [e5]
  by_cases e6 : how = 6
  · simp [e6]
  have e7 : how = 7 := by omega
  simp [e7]
set_option maxRecDepth 100000 in
set_option maxHeartbeats 1000000 in
theorem impl_each (a b how : Int) (ha : 0 ≤ a) (ha' : a ≤ 3) (hb : 0 ≤ b) (hb' : b ≤ 99) (h0 : 1 ≤ how) (h1 : how ≤ 7) (w : World) : Calls Try.prog 90 #[.int .i64 a, .int .i64 b, .int .i64 how] w (fun e w' => e = .returned (.tuple #[.int .i64 (each3 a b how).1, .int .i64 (each3 a b how).2.1, .bool (each3 a b how).2.2]) ∧ w = w') := by
  unfold each3
  rcases (show how = 1 ∨ how = 2 ∨ how = 3 ∨ how = 4 ∨ how = 5 ∨ how = 6 ∨ how = 7 by omega) with rfl | rfl | rfl | rfl | rfl | rfl | rfl
  all_goals
    go_enter Try.func90, Try.ntmps90
    go_wp2
    go_ret3
    exact ⟨by first | (simp; done) | (simp; rfl), rfl⟩
set_option maxRecDepth 100000 in
set_option maxHeartbeats 1000000 in
theorem spec_l3One (a b how : Int) (ha : 0 ≤ a) (ha' : a ≤ 3) (hb : 0 ≤ b) (hb' : b ≤ 99) (h0 : 1 ≤ how) (h1 : how ≤ 7) (w : World) : Calls Try.prog 133 #[.int .i64 a, .int .i64 b, .int .i64 how] w (fun e w' => e = .returned (.tuple #[.int .i64 (each3 a b how).1, .int .i64 (each3 a b how).2.1, .bool (each3 a b how).2.2]) ∧ w = w') := by
  unfold each3
  rcases (show how = 1 ∨ how = 2 ∨ how = 3 ∨ how = 4 ∨ how = 5 ∨ how = 6 ∨ how = 7 by omega) with rfl | rfl | rfl | rfl | rfl | rfl | rfl
  all_goals
    go_enter Try.func133, Try.ntmps133
    go_wp2
    go_ret3
    exact ⟨by first | (simp; done) | (simp; rfl) | (simp; omega), rfl⟩
set_option maxRecDepth 100000 in
set_option maxHeartbeats 400000 in
theorem impl_howOk (how : Int) (w : World) : Calls Try.prog 86 #[.int .i64 how] w (fun e w' => e = .returned (.bool (decide (1 ≤ how) && decide (how ≤ 7))) ∧ w = w') := by
  by_cases h0 : 1 ≤ how <;> by_cases h1 : how ≤ 7
  all_goals
    go_enter Try.func86, Try.ntmps86
    go_wp2
    go_ret
    exact ⟨by simp [h0, h1], rfl⟩
set_option maxRecDepth 100000 in
set_option maxHeartbeats 400000 in
theorem spec_l3Way (how : Int) (w : World) : Calls Try.prog 88 #[.int .i64 how] w (fun e w' => e = .returned (.bool (decide (1 ≤ how) && decide (how ≤ 7))) ∧ w = w') := by
  go_enter Try.func88, Try.ntmps88
  go_wp2_with (go_at_call 108; ((with_reducible refine (spec_l6In _ _ _ _).mono ?_); rintro e w' ⟨rfl, rfl⟩))
  go_ret
  exact ⟨rfl, rfl⟩
theorem eachI_3 {x : It} {how : Int} (h0 : 1 ≤ how) (h1 : how ≤ 7) : eachI how x = if (each3 x.f0 x.f1 how).2.2 = true then [⟨(each3 x.f0 x.f1 how).1, (each3 x.f0 x.f1 how).2.1, x.f2⟩] else [] := by
  unfold eachI; rw [each3_kv h0 h1]
  cases (each3 x.f0 x.f1 how).2.2 <;> simp
theorem fm_snoc {α β : Type} {s : List α} {k : Nat} {x : α} (hx : s[k]? = some x) (g : α → List β) : (s.take (k + 1)).flatMap g = (s.take k).flatMap g ++ g x := by
  rw [take_snoc hx, List.flatMap_append]; simp
theorem eachI_take (how : Int) (s : List It) (k : Nat) : ((s.take k).flatMap (eachI how)).length ≤ k := Nat.le_trans (len_each how _) (by rw [List.length_take]; omega)
theorem each_fit {s : List It} {how : Int} (hs : setOk s = true) : ∀ y ∈ s.flatMap (eachI how), wfI y.f0 ∧ wfI y.f1 ∧ wfI y.f2 := fun y hy => by
  have hk := key_each (how := how) (s := s) (fun x hx => by have := sOk_of hs x hx; unfold keyOk; omega) y hy
  obtain ⟨x, hx, hy⟩ := List.mem_flatMap.1 hy
  have := sOk_of hs x hx
  have e : y.f2 = x.f2 := by
    unfold eachI at hy
    cases he : eachKV x.f0 x.f1 how with
    | none => rw [he] at hy; cases hy
    | some p => obtain ⟨a, b⟩ := p; rw [he] at hy; rw [List.mem_singleton.1 hy]
  unfold keyOk at hk
  exact ⟨wf_of (by omega) (by omega), wf_of (by omega) (by omega), wf_of (by omega) (by omega)⟩
theorem Calls.extQ {P : Program} {f : FuncId} {args : Array Value} {w : World} {u : Ext w} {v : Value} (h : Calls P f args u.w' fun e w' => e = .returned v ∧ u.w' = w') : Calls P f args u.w' fun e w'' => e = .returned v ∧ ∃ u' : Ext w, w'' = u'.w' :=
  h.mono fun _ w'' ⟨he, hw⟩ => ⟨he, u, hw.symm⟩
set_option maxRecDepth 100000 in
set_option maxHeartbeats 4000000 in
theorem impl_SetEach (v : Value) (s : List It) (how : Int) (w : World) (h : Sl kIt w v s) : Calls Try.prog 33 #[v, .int .i64 how] w (RetR kIt 93 w (setEach s how)) := by
  have HS := Aside0.mk h
  obtain ⟨A, c_, rfl, HC, hr⟩ := h
  have hm := Kd.C_max hr
  have HR := Aside0.mk hr
  clear hr
  cases hs : setOk s
  · have HB := Aside0.mk (Below.refl w.heap.size w)
    go_enter Try.func33, Try.ntmps33
    go_wp2_with (go_at_call 78; ((with_reducible refine (impl_SetOk _ s _ HS.out).mono ?_); rintro e w' ⟨rfl, hb⟩; replace HB := Aside0.mk (bthen HB.out hb); clear hb))
    go_ret
    exact RetR.mk (by rw [setEach, hs]; exact Kd.R_nil _ _ _ _ _) HB.out
  · cases hh : (decide (1 ≤ how) && decide (how ≤ 7))
    · have HB := Aside0.mk (Below.refl w.heap.size w)
      go_enter Try.func33, Try.ntmps33
      go_wp2_with (first | (go_at_call 78; ((with_reducible refine (impl_SetOk _ s _ (HS.out.below HB.out)).mono ?_); rintro e w' ⟨rfl, hb⟩; replace HB := Aside0.mk (bthen HB.out hb); clear hb)) | (go_at_call 86; ((with_reducible refine (impl_howOk _ _).mono ?_); rintro e w' ⟨rfl, rfl⟩)))
      go_ret
      exact RetR.mk (by rw [setEach, hs, Bool.true_and, hh]; exact Kd.R_nil _ _ _ _ _) HB.out
    · have hl1 := setOk_len hs
      have hh2 := hh
      simp only [Bool.and_eq_true, decide_eq_true_eq] at hh2
      obtain ⟨g0, g1⟩ := hh2
      have hok := Aside0.mk (sOk_of hs)
      have hfit := Aside0.mk (each_fit (how := how) hs)
      have HB := Aside0.mk (Below.refl w.heap.size w)
      go_enter Try.func33, Try.ntmps33
      go_wp2_with (first | (go_at_call 78; ((with_reducible refine (impl_SetOk _ s _ (HS.out.below HB.out)).mono ?_); rintro e wb ⟨rfl, hb⟩; replace HB := Aside0.mk (bthen HB.out hb); clear hb)) | (go_at_call 86; ((with_reducible refine (impl_howOk _ _).mono ?_); rintro e w' ⟨rfl, rfl⟩)))
      have HH := Aside0.mk hh
      clear hh
      go_loopw [5, 22] (fun o i wr => ∃ (k : Nat), k ≤ s.length ∧ i = .int .i64 k ∧ Aside0 (kIt.R 93 wr w.heap.size okT o ((s.take k).flatMap (eachI how))) ∧ Aside0 (Below w.heap.size w wr)) (fun _ i _ => s.length - (intOf i).toNat)
      case atStart => exact ⟨0, Nat.zero_le _, rfl, ⟨R_none (blk_new wb _) HB.out.size trivial⟩, ⟨below_alloc HB.out _⟩⟩
      case round =>
        clear HB
        obtain ⟨k, hk, rfl, HO, HB⟩ := hrel
        by_cases hlt : k < s.length
        · obtain ⟨ad, x, e, HX, h0, h1, h2⟩ := rdIt HR.out HB.out hlt
          cases e
          have hws := HB.out.size
          have hpl := eachI_take how s k
          have hx := hok.out x (List.mem_of_getElem? HX.out)
          cases hkp : (each3 x.f0 x.f1 how).2.2
          · have HK := Aside0.mk hkp
            go_wp2_with (go_at_call 90; ((with_reducible refine (impl_each x.f0 x.f1 how (by omega) (by omega) (by omega) (by omega) g0 g1 _).mono ?_); rintro e w' ⟨rfl, rfl⟩))
            go_roundw
            case rel => exact ⟨k + 1, by omega, by go_num, ⟨by rw [fm_snoc HX.out, eachI_3 g0 g1, HK.out]; simpa using Kd.R_alloc HO.out _⟩, ⟨below_alloc HB.out _⟩⟩
            case measure => simp [intOf]; omega
          · have HK := Aside0.mk hkp
            go_upto_region 9 with (go_at_call 90; ((with_reducible refine (impl_each x.f0 x.f1 how (by omega) (by omega) (by omega) (by omega) g0 g1 _).mono ?_); rintro e w' ⟨rfl, rfl⟩))
            refine name_world fun W hW => ?_
            have B0 : W.heap[wr.heap.size]? = some (.cells #[.int .i64 x.f0, .int .i64 x.f1, .int .i64 x.f2] 93 (0, 0)) := by rw [hW]; exact blk_new wr _
            have hb1 : Below wr.heap.size wr W := by rw [hW]; repeat (first | exact Below.refl _ _ | apply below_alloc | refine below_set ?_ (by simp))
            clear hW
            generalize hX : wr.heap.size = X at B0 ⊢
            replace HB := Aside0.mk (bthen HB.out hb1)
            have HO1 := Aside0.mk (Kd.R_below HO.out hb1)
            have b2 := blk_cell B0 2
            clear h0 h1 h2 hb1 hX HO
            go_wp2_with (at_builtin; refine appIt (w0 := w) (base := w.heap.size) (xs := (s.take k).flatMap (eachI how)) (ok := okT) rfl rfl rfl HO1.out (fun _ _ => trivial) HB.out (by have := HB.out.size; omega) (by omega) ?_; intro v1 w1 hr1 hb1 hg1 ha1; have HO2 := Aside0.mk hr1; have HG_ := Aside0.mk hg1; replace HB := Aside0.mk hb1; clear hr1 hb1 hg1 ha1)
            go_roundw
            case rel => exact ⟨k + 1, by omega, by go_num, ⟨by rw [fm_snoc HX.out, eachI_3 g0 g1, HK.out]; exact HO2.out⟩, HB⟩
            case measure => simp [intOf]; omega
        · obtain rfl : k = s.length := by omega
          rw [List.take_length] at HO
          have hpl := len_each how s
          go_wp2_with (go_at_call 84; ((with_reducible refine (impl_gathered _ (s.flatMap (eachI how)) _ (Sl.of_R HO.out) hfit.out (by omega)).mono ?_); rintro e w' ⟨u, rfl, hr, hb⟩; have HF := Aside0.mk (Kd.R_lower hr HB.out.size); replace HB := Aside0.mk (bthen HB.out hb); clear hr hb))
          go_ret
          exact RetR.mk (by rw [setEach, hs, Bool.true_and, HH.out]; exact HF.out) HB.out
end Go.Proofs.Ytlmglffdmoklcaa.X
