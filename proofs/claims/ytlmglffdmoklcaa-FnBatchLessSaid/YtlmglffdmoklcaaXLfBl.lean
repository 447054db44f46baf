/- What is taken away is less: plainly, and the law's walk. Conditions: none. -/
import Derived.Test.YtlmglffdmoklcaaXFl
import Derived.Test.YtlmglffdmoklcaaXDr
import Derived.Test.YtlmglffdmoklcaaXFt
import Derived.Test.YtlmglffdmoklcaaXLw
import Derived.Test.YtlmglffdmoklcaaXBytes
import Derived.RegionTactic
import Derived.BigRegion
namespace Go.Proofs.Ytlmglffdmoklcaa.X
open Go.RowKit Go.Proofs.YtlmglffdmoklcaaW.PrintWords
set_option linter.unusedVariables false
set_option linter.unusedSimpArgs false

theorem sh_negR {l : List Rw} (h : ∀ r ∈ l, rowOk r = true) (φ : Wt) : sg (sh φ) (l.map neg) = - sg (sh φ) l := by
  rw [sg_map, ← sg_neg]
  exact sg_congr fun x hx => by rw [(neg_in (h x hx)).2]; unfold sh; simp [Int.neg_mul]
theorem mass_negR {l : List Rw} (h : ∀ r ∈ l, rowOk r = true) : mass (l.map neg) = mass l := by
  unfold mass
  rw [sg_map]
  exact sg_congr fun x hx => by rw [(neg_in (h x hx)).2]; simp
theorem FewR.neg {c : Int} {n : Nat} {l : List Rw} (h : FewR c n l) : FewR c n (l.map X.neg) := ⟨by rw [mass_negR h.ok]; exact h.mass, by rw [List.length_map]; exact h.len, neg_ok h.ok⟩
/-- FnBatchLess, told plainly -/
theorem batchLess_all {a : List Rw} (ha : rowsOk a = true) (da : RowsD a) : (∀ t, tOk t = true → batchAt (batchLess a) t = setLess (batchAt a t)) ∧ batchBoth a (batchLess a) = [] ∧ batchLess (batchLess a) = batchOf a := by
  have fa := FewR.of ha da
  have fn := fa.neg
  have e1 := fn.fit (by omega) (by omega)
  have fs := fn.sum (by omega)
  have r1 := fs.rows (by omega)
  have m1 := fa.mass
  have m2 := fn.mass
  have m3 := fs.mass
  have el : batchLess a = sum (a.map X.neg) := by unfold batchLess; rw [if_pos ha]; exact e1
  rw [el]
  refine ⟨fun t ht => ?_, ?_, ?_⟩
  · have s1 := present_setOk fa (by omega) (by omega) t
    have eb : batchAt a t = present a t := by unfold batchAt; rw [ha, ht]; rfl
    rw [eb]
    unfold batchAt setLess
    simp only [r1, ht, s1, Bool.and_self, if_true]
    obtain ⟨k1, k2⟩ := present_mass fs (by omega) t
    obtain ⟨k3, k4⟩ := present_mass fa (by omega) t
    have hsm : ∀ x ∈ present a t, (x.f2.natAbs : Int) ≤ 1099511627776 := fun x hx => by have := massI_mem hx; omega
    refine canonI_eq (items_canon _) (canonI_neg (items_canon _) hsm) (fun ψ => ?_)
    rw [sh_neg hsm]
    show sg (shI ψ) (items (presentOf _ t)) = - sg (shI ψ) (items (presentOf a t))
    rw [items_sh (by omega), sh_present', sum_sh (by omega), sh_negR fa.ok]
    rw [items_sh (by omega), sh_present']
  · have e2 := (fa.append fs).fit (by omega) (by omega)
    have m4 := (fa.append fs).mass
    unfold batchBoth
    rw [ha, r1]
    simp only [Bool.and_self, if_true]
    rw [e2]
    refine canon_eq (sum_canon _) ⟨List.Pairwise.nil, fun r hr => by cases hr⟩ (fun φ => ?_)
    rw [sum_sh (by omega), shR_append, sum_sh (by omega), sh_negR fa.ok]
    simp only [sg]; omega
  · have e2 := fs.neg.fit (by omega) (by omega)
    have e3 := fa.fit (by omega) (by omega)
    have m4 := fs.neg.mass
    unfold batchLess batchOf
    rw [if_pos r1, if_pos ha]
    rw [show fit (sum ((sum (a.map X.neg)).map X.neg)) = _ from e2, e3]
    refine sum_eq (by omega) (by omega) (fun φ => ?_)
    rw [sh_negR fs.ok, sum_sh (by omega), sh_negR fa.ok]; omega
set_option maxRecDepth 100000 in
set_option maxHeartbeats 4000000 in
theorem laws_FnBatchLess (v : Value) (l : List Int) (w : World) (h : IsBytes w v l) : Calls Try.prog 3 #[v] w (RetV w (.bool true)) := by
  have H := Aside0.mk h
  obtain ⟨⟨A, c, rfl, hc, hr⟩, hb⟩ := h
  have hm := Kd.C_max hr
  clear hr hb
  have HB := Aside0.mk (Below.refl w.heap.size w)
  go_enter Try.func3, Try.ntmps3
  by_cases hl : 1048576 < l.length
  · have hl' : (l.length : Int) > 1048576 := by omega
    go_wp2
    go_ret
    exact RetV.mk rfl HB.out
  have hl' : ¬ (l.length : Int) > 1048576 := by omega
  go_upto_region 4 with (go_at_call 15; ((with_reducible refine (spec_DrawBatchLess (.slice A l.length c) l w H.out.sl H.out.by_).mono ?_); rintro e wa ⟨vs, s, rfl, h1, h2, h5⟩; have HS := Aside0.mk h1; have DS := Aside0.mk h2; replace HB := Aside0.mk h5; clear h1 h2 h5))
  have q0 : decide (batchLess s = batchLess s) = true := decide_eq_true rfl
  cases hs : rowsOk s
  · go_wp2_with (first
      | (go_at_call 16; ((with_reducible refine (impl_BatchLess vs s _ HS.out).mono ?_); rintro e w' ⟨vx, rfl, hr, hb⟩; (try replace HS := Aside0.mk (HS.out.below hb)); (try replace HX := Aside0.mk (HX.out.below hb)); (try replace HY := Aside0.mk (HY.out.below hb)); replace HB := Aside0.mk (bthen HB.out hb); have HX := Aside0.mk (Sl.of_R hr); clear hr hb))
      | (go_at_call 18; ((with_reducible refine (spec_BatchLess vs s _ HS.out).mono ?_); rintro e w' ⟨vy, rfl, hr, hb⟩; (try replace HS := Aside0.mk (HS.out.below hb)); (try replace HX := Aside0.mk (HX.out.below hb)); (try replace HY := Aside0.mk (HY.out.below hb)); replace HB := Aside0.mk (bthen HB.out hb); have HY := Aside0.mk hr; clear hr hb))
      | (go_at_call 17; ((with_reducible refine (laws_lwRows vx vy (batchLess s) (batchLess s) _ HX.out HY.out).mono ?_); rintro e w' ⟨rfl, hb⟩; (try replace HS := Aside0.mk (HS.out.below hb)); (try replace HX := Aside0.mk (HX.out.below hb)); (try replace HY := Aside0.mk (HY.out.below hb)); replace HB := Aside0.mk (bthen HB.out hb); clear hb))
      | (go_at_call 19; ((with_reducible refine (spec_RowsOk vs s _ HS.out).mono ?_); rintro e w' ⟨rfl, hb⟩; (try replace HS := Aside0.mk (HS.out.below hb)); (try replace HX := Aside0.mk (HX.out.below hb)); (try replace HY := Aside0.mk (HY.out.below hb)); replace HB := Aside0.mk (bthen HB.out hb); clear hb)))
    go_ret
    exact RetV.mk rfl HB.out
  · obtain ⟨k2, k3, k4⟩ := batchLess_all hs DS.out
    have K2 := Aside0.mk k2
    have K3 := Aside0.mk k3
    have K4 := Aside0.mk k4
    have HOK := Aside0.mk allTm_ok
    clear k2 k3 k4
    go_upto_region 8 with (first
      | (go_at_call 16; ((with_reducible refine (impl_BatchLess vs s _ HS.out).mono ?_); rintro e w' ⟨vx, rfl, hr, hb⟩; (try replace HS := Aside0.mk (HS.out.below hb)); (try replace HX := Aside0.mk (HX.out.below hb)); (try replace HY := Aside0.mk (HY.out.below hb)); (try replace HA := Aside0.mk (HA.out.below hb)); replace HB := Aside0.mk (bthen HB.out hb); have HX := Aside0.mk (Sl.of_R hr); clear hr hb))
      | (go_at_call 18; ((with_reducible refine (spec_BatchLess vs s _ HS.out).mono ?_); rintro e w' ⟨vy, rfl, hr, hb⟩; (try replace HS := Aside0.mk (HS.out.below hb)); (try replace HX := Aside0.mk (HX.out.below hb)); (try replace HY := Aside0.mk (HY.out.below hb)); (try replace HA := Aside0.mk (HA.out.below hb)); replace HB := Aside0.mk (bthen HB.out hb); have HY := Aside0.mk hr; clear hr hb))
      | (go_at_call 17; ((with_reducible refine (laws_lwRows vx vy (batchLess s) (batchLess s) _ HX.out HY.out).mono ?_); rintro e w' ⟨rfl, hb⟩; (try replace HS := Aside0.mk (HS.out.below hb)); (try replace HX := Aside0.mk (HX.out.below hb)); (try replace HY := Aside0.mk (HY.out.below hb)); (try replace HA := Aside0.mk (HA.out.below hb)); replace HB := Aside0.mk (bthen HB.out hb); clear hb))
      | (go_at_call 19; ((with_reducible refine (spec_RowsOk vs s _ HS.out).mono ?_); rintro e w' ⟨rfl, hb⟩; (try replace HS := Aside0.mk (HS.out.below hb)); (try replace HX := Aside0.mk (HX.out.below hb)); (try replace HY := Aside0.mk (HY.out.below hb)); (try replace HA := Aside0.mk (HA.out.below hb)); replace HB := Aside0.mk (bthen HB.out hb); clear hb))
      | (go_at_call 20; ((with_reducible refine (laws_lwAll _).mono ?_); rintro e w' ⟨va, rfl, hr, hb⟩; (try replace HS := Aside0.mk (HS.out.below hb)); (try replace HX := Aside0.mk (HX.out.below hb)); (try replace HY := Aside0.mk (HY.out.below hb)); (try replace HA := Aside0.mk (HA.out.below hb)); replace HB := Aside0.mk (bthen HB.out hb); have HA := Aside0.mk (Sl.of_R hr); clear hr hb)))
    clear HY
    obtain ⟨A3, c3, rfl, hc3, hC3⟩ := HA.out
    have hm3 := Kd.C_max hC3
    clear hC3
    generalize allTm = all at *
    generalize batchLess s = x at *
    go_wp2
    go_loopw [6] (fun i wr => ∃ k : Nat, k ≤ all.length ∧ i = .int .i64 k ∧ Aside0 (Sl kRw wr vx x) ∧ Aside0 (Sl kRw wr vs s) ∧ Aside0 (Sl kTm wr (.slice A3 all.length c3) all) ∧ Aside0 (Below w.heap.size w wr)) (fun i _ => all.length - (intOf i).toNat)
    case atStart => exact ⟨0, Nat.zero_le _, rfl, HX, HS, HA, HB⟩
    case round =>
      clear HX HS HA HB
      obtain ⟨k, hk, rfl, HX, HS, HA, HB⟩ := hrel
      by_cases hlt : k < all.length
      · obtain ⟨A4, c4, e4, hc4, hC4⟩ := HA.out
        cases e4
        obtain ⟨ad, y, e, HY, h0, h1⟩ := rdTm hC4 (Below.refl _ _) hlt
        cases e
        have hy := K2.out y (HOK.out y (List.mem_of_getElem? HY.out))
        have q1 := decide_eq_true hy
        clear hC4 hy
        have d0 : wr.drew.cell? (ad.add (k * 2)) = some (.int .i64 y.f0) := h0
        have d1 : wr.drew.cell? ⟨(ad.add (k * 2)).block, (ad.add (k * 2)).off + 1, none⟩ = some (.int .i64 y.f1) := h1
        replace HX := Aside0.mk (HX.out.below (below_drew (Below.refl _ _)))
        replace HS := Aside0.mk (HS.out.below (below_drew (Below.refl _ _)))
        replace HA := Aside0.mk (HA.out.below (below_drew (Below.refl _ _)))
        replace HB := Aside0.mk (below_drew HB.out)
        go_upto_region 11 with fail
        go_region_held3 (fun w' => w'.cell? (ad.add (k * 2)) = some (.int .i64 y.f0) ∧ w'.cell? ⟨(ad.add (k * 2)).block, (ad.add (k * 2)).off + 1, none⟩ = some (.int .i64 y.f1)) (first | exact ⟨h0, h1⟩ | exact ⟨d0, d1⟩)
          (first
          | (go_at_call 22; ((with_reducible refine (impl_BatchAt vx x y _ HX.out).mono ?_); rintro e w' ⟨vb, rfl, hr, hb⟩; (try replace HX := Aside0.mk (HX.out.below hb)); (try replace HS := Aside0.mk (HS.out.below hb)); (try replace HA := Aside0.mk (HA.out.below hb)); (try replace HC := Aside0.mk (HC.out.below hb)); (try replace HD := Aside0.mk (HD.out.below hb)); (try replace HF := Aside0.mk (HF.out.below hb)); replace d0 := pw_cell_below hb d0; replace d1 := pw_cell_below hb d1; replace HB := Aside0.mk (bthen HB.out hb); have HC := Aside0.mk (Sl.of_R hr); clear hr hb))
          | (go_at_call 22; ((with_reducible refine (impl_BatchAt vs s y _ HS.out).mono ?_); rintro e w' ⟨vc, rfl, hr, hb⟩; (try replace HX := Aside0.mk (HX.out.below hb)); (try replace HS := Aside0.mk (HS.out.below hb)); (try replace HA := Aside0.mk (HA.out.below hb)); (try replace HC := Aside0.mk (HC.out.below hb)); (try replace HD := Aside0.mk (HD.out.below hb)); (try replace HF := Aside0.mk (HF.out.below hb)); replace d0 := pw_cell_below hb d0; replace d1 := pw_cell_below hb d1; replace HB := Aside0.mk (bthen HB.out hb); have HD := Aside0.mk (Sl.of_R hr); clear hr hb))
          | (go_at_call 23; ((with_reducible refine (impl_SetLess vc (batchAt s y) _ HD.out).mono ?_); rintro e w' ⟨ve, rfl, hr, hb⟩; (try replace HX := Aside0.mk (HX.out.below hb)); (try replace HS := Aside0.mk (HS.out.below hb)); (try replace HA := Aside0.mk (HA.out.below hb)); (try replace HC := Aside0.mk (HC.out.below hb)); (try replace HD := Aside0.mk (HD.out.below hb)); (try replace HF := Aside0.mk (HF.out.below hb)); replace d0 := pw_cell_below hb d0; replace d1 := pw_cell_below hb d1; replace HB := Aside0.mk (bthen HB.out hb); have HF := Aside0.mk (Sl.of_R hr); clear hr hb))
          | (go_at_call 21; ((with_reducible refine (laws_lwItems vb ve (batchAt x y) (setLess (batchAt s y)) _ HC.out HF.out).mono ?_); rintro e w' ⟨rfl, hb⟩; (try replace HX := Aside0.mk (HX.out.below hb)); (try replace HS := Aside0.mk (HS.out.below hb)); (try replace HA := Aside0.mk (HA.out.below hb)); (try replace HC := Aside0.mk (HC.out.below hb)); (try replace HD := Aside0.mk (HD.out.below hb)); (try replace HF := Aside0.mk (HF.out.below hb)); replace d0 := pw_cell_below hb d0; replace d1 := pw_cell_below hb d1; replace HB := Aside0.mk (bthen HB.out hb); clear hb)))
        go_wp2
        go_roundw
        case rel => exact ⟨k + 1, by omega, by go_num, HX, HS, HA, HB⟩
        case measure => simp [intOf]; omega
      · have q2 := decide_eq_true K4.out
        go_wp2_with (first
          | (go_at_call 24; ((with_reducible refine (impl_BatchBoth vs vx s x _ HS.out HX.out).mono ?_); rintro e w' ⟨vq, rfl, hr, hb⟩; rw [K3.out] at hr; (try replace HX := Aside0.mk (HX.out.below hb)); (try replace HS := Aside0.mk (HS.out.below hb)); (try replace HE := Aside0.mk (HE.out.below hb)); (try replace HG := Aside0.mk (HG.out.below hb)); replace HB := Aside0.mk (bthen HB.out hb); obtain ⟨A6, c6, rfl, _, _⟩ := Sl.of_R hr; clear hr hb))
          | (go_at_call 16; ((with_reducible refine (impl_BatchLess vx x _ HX.out).mono ?_); rintro e w' ⟨vr, rfl, hr, hb⟩; (try replace HX := Aside0.mk (HX.out.below hb)); (try replace HS := Aside0.mk (HS.out.below hb)); (try replace HE := Aside0.mk (HE.out.below hb)); (try replace HG := Aside0.mk (HG.out.below hb)); replace HB := Aside0.mk (bthen HB.out hb); have HE := Aside0.mk (Sl.of_R hr); clear hr hb))
          | (go_at_call 25; ((with_reducible refine (impl_BatchOf vs s _ HS.out).mono ?_); rintro e w' ⟨vt, rfl, hr, hb⟩; (try replace HX := Aside0.mk (HX.out.below hb)); (try replace HS := Aside0.mk (HS.out.below hb)); (try replace HE := Aside0.mk (HE.out.below hb)); (try replace HG := Aside0.mk (HG.out.below hb)); replace HB := Aside0.mk (bthen HB.out hb); have HG := Aside0.mk (Sl.of_R hr); clear hr hb))
          | (go_at_call 17; ((with_reducible refine (laws_lwRows vr vt (batchLess x) (batchOf s) _ HE.out HG.out).mono ?_); rintro e w' ⟨rfl, hb⟩; (try replace HX := Aside0.mk (HX.out.below hb)); (try replace HS := Aside0.mk (HS.out.below hb)); (try replace HE := Aside0.mk (HE.out.below hb)); (try replace HG := Aside0.mk (HG.out.below hb)); replace HB := Aside0.mk (bthen HB.out hb); clear hb)))
        go_ret
        exact RetV.mk rfl HB.out
end Go.Proofs.Ytlmglffdmoklcaa.X
