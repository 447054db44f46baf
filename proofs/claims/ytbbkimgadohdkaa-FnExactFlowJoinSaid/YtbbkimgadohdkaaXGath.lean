/- impl.gathered: items by a map, ranged over in whatever order, and sorted. Conditions: keys and values are ints of the machine; fewer than 2^40 items. -/
import Derived.Test.YtbbkimgadohdkaaXMapAdd
import Derived.Test.YtbbkimgadohdkaaXSortIt
import Derived.Test.YtbbkimgadohdkaaXPGath
import Derived.RegionTactic
import Derived.BigRegion
namespace Go.Proofs.Ytbbkimgadohdkaa.X
open Go.RowKit Go.WideElems Go.MapKept Go.ChangeMaps Go.ChangeShapes Go.WideShapes Go.Proofs.YtbbkimgadohdkaaW.PrintWords
open Go.WideMaps (KeyLaw)
open Go.Maps (Keyed)
set_option linter.unusedVariables false
set_option linter.unusedSimpArgs false

theorem wf0 : wfI 0 := by unfold wfI; decide
theorem litIt_inj {a b a' b' : Int} (ha : wfI a) (hb : wfI b) (ha' : wfI a') (hb' : wfI b') (h : litIt a b 0 = litIt a' b' 0) : a = a' ∧ b = b' := by
  have h1 := keyIt ha hb wf0
  have h2 := keyIt ha' hb' wf0
  rw [h] at h1
  have := (Keyed.of_law lawIt).inj h1 h2
  simp at this
  exact this
theorem keyLit {a b : Int} (ha : wfI a) (hb : wfI b) : WideAt.IsKeyLit (litIt a b 0) := (Keyed.of_law lawIt).key (keyIt ha hb wf0)
/-- the map reads as the counts of the items so far -/
structure MapI (l : List It) (D : DataW Unit) : Prop where
  im : Maps.IsMap D
  at_ : ∀ a b, wfI a → wfI b → D.atKey (litIt a b 0) (.lit (.int .i64 0)) = .lit (.int .i64 (cnt l a b))
  has : ∀ a b, wfI a → wfI b → Maps.has D (litIt a b 0) = keyed l a b
  only : ∀ kl, Maps.has D kl = true → ∃ a b, wfI a ∧ wfI b ∧ kl = litIt a b 0
theorem MapI.start : MapI [] (.map []) := ⟨⟨[], rfl⟩, fun _ _ _ _ => rfl, fun _ _ _ _ => rfl, fun _ h => by cases h⟩
theorem MapI.step {l : List It} {D : DataW Unit} (h : MapI l D) {x : It} (h0 : wfI x.f0) (h1 : wfI x.f1) : MapI (l ++ [x]) (D.put (litIt x.f0 x.f1 0) (.lit (.int .i64 (wrap64 (cnt l x.f0 x.f1 + x.f2))))) := by
  refine ⟨?_, fun a b ha hb => ?_, fun a b ha hb => ?_, fun kl hk => ?_⟩
  · obtain ⟨es, rfl⟩ := h.im; exact ⟨_, rfl⟩
  · rw [cnt_snoc, step3]
    by_cases he : x.f0 = a ∧ x.f1 = b
    · obtain ⟨rfl, rfl⟩ := he
      rw [Maps.atKey_put_same h.im (keyLit h0 h1), if_pos ⟨rfl, rfl⟩]
    · rw [Maps.atKey_put_other (fun e => he (litIt_inj h0 h1 ha hb e.symm)), if_neg he, h.at_ a b ha hb]
  · rw [keyed_snoc]
    by_cases he : x.f0 = a ∧ x.f1 = b
    · obtain ⟨rfl, rfl⟩ := he
      rw [Maps.has_put_same h.im (keyLit h0 h1)]; simp
    · rw [Maps.has_put_other (fun e => he (litIt_inj h0 h1 ha hb e.symm)), h.has a b ha hb]
      have : (decide (x.f0 = a) && decide (x.f1 = b)) = false := by
        rw [Bool.and_eq_false_iff, decide_eq_false_iff_not, decide_eq_false_iff_not]; exact Decidable.not_and_iff_or_not.1 he
      rw [this, Bool.or_false]
  · by_cases he : kl = litIt x.f0 x.f1 0
    · exact ⟨_, _, h0, h1, he⟩
    · rw [Maps.has_put_other he] at hk
      exact h.only kl hk
/-- what has been met of the map -/
structure Met (l : List It) (D : DataW Unit) (left : Lit → Bool) (ys : List It) : Prop where
  of : ∀ y ∈ ys, wfI y.f0 ∧ wfI y.f1 ∧ y.f2 = cnt l y.f0 y.f1 ∧ y.f2 ≠ 0 ∧ left (litIt y.f0 y.f1 0) = false
  once : ys.Pairwise fun x y => ¬ (x.f0 = y.f0 ∧ x.f1 = y.f1)
  all : ∀ a b, wfI a → wfI b → Maps.has D (litIt a b 0) = true → left (litIt a b 0) = false → cnt l a b ≠ 0 → ⟨a, b, cnt l a b⟩ ∈ ys
  from_ : ∀ kl, left kl = true → Maps.has D kl = true
theorem Met.start (l : List It) (D : DataW Unit) : Met l D (Maps.has D) [] := ⟨fun y hy => (by cases hy), List.Pairwise.nil, fun a b _ _ h1 h2 => (by rw [h1] at h2; cases h2), fun _ h => h⟩
theorem sameKey_lit {a b a' b' : Int} (ha : wfI a) (hb : wfI b) (ha' : wfI a') (hb' : wfI b') : (litIt a b 0).sameKey (litIt a' b' 0) = (decide (a = a') && decide (b = b')) := by
  by_cases h : a = a' ∧ b = b'
  · obtain ⟨rfl, rfl⟩ := h
    rw [WideAt.sameKey_self (keyLit ha hb)]; simp
  · have h1 : litIt a b 0 ≠ litIt a' b' 0 := fun e => h (litIt_inj ha hb ha' hb' e)
    have h2 : (decide (a = a') && decide (b = b')) = false := by
      rw [Bool.and_eq_false_iff, decide_eq_false_iff_not, decide_eq_false_iff_not]; exact Decidable.not_and_iff_or_not.1 h
    rw [h2]
    cases hs : (litIt a b 0).sameKey (litIt a' b' 0) with
    | false => rfl
    | true => exact absurd (by simpa [litIt, Lit.sameKey] using hs) (fun e => h1 (by simp [litIt]; exact e))
theorem Met.step {l : List It} {D : DataW Unit} {left : Lit → Bool} {ys : List It} (hM : MapI l D) (h : Met l D left ys) {a b : Int} (ha : wfI a) (hb : wfI b) (hl : left (litIt a b 0) = true) :
    Met l D (fun z => left z && !z.sameKey (litIt a b 0)) (if cnt l a b ≠ 0 then ys ++ [⟨a, b, cnt l a b⟩] else ys) := by
  have hnew : ∀ y ∈ ys, ¬ (y.f0 = a ∧ y.f1 = b) := fun y hy e => by
    obtain ⟨_, _, _, _, h5⟩ := h.of y hy
    rw [e.1, e.2, hl] at h5
    cases h5
  have hold : ∀ y ∈ ys, (left (litIt y.f0 y.f1 0) && !(litIt y.f0 y.f1 0).sameKey (litIt a b 0)) = false := fun y hy => by rw [(h.of y hy).2.2.2.2]; rfl
  refine ⟨fun y hy => ?_, ?_, fun a' b' ha' hb' h1 h2 h3 => ?_, fun kl hk => ?_⟩
  · by_cases h0 : cnt l a b ≠ 0
    · rw [if_pos h0] at hy
      rcases List.mem_append.1 hy with hy | hy
      · obtain ⟨g1, g2, g3, g4, _⟩ := h.of y hy
        exact ⟨g1, g2, g3, g4, hold y hy⟩
      · rw [List.mem_singleton.1 hy]
        exact ⟨ha, hb, rfl, h0, by rw [sameKey_lit ha hb ha hb]; simp⟩
    · rw [if_neg h0] at hy
      obtain ⟨g1, g2, g3, g4, _⟩ := h.of y hy
      exact ⟨g1, g2, g3, g4, hold y hy⟩
  · split
    · refine List.pairwise_append.2 ⟨h.once, List.pairwise_singleton _ _, fun x hx y hy => ?_⟩
      rw [List.mem_singleton.1 hy]
      exact hnew x hx
    · exact h.once
  · replace h2 : (left (litIt a' b' 0) && !(litIt a' b' 0).sameKey (litIt a b 0)) = false := h2
    rw [sameKey_lit ha' hb' ha hb] at h2
    by_cases he : a' = a ∧ b' = b
    · obtain ⟨rfl, rfl⟩ := he
      rw [if_pos h3]
      exact List.mem_append.2 (.inr (List.mem_singleton.2 rfl))
    · have e1 : (decide (a' = a) && decide (b' = b)) = false := by
        rw [Bool.and_eq_false_iff, decide_eq_false_iff_not, decide_eq_false_iff_not]; exact Decidable.not_and_iff_or_not.1 he
      rw [e1, Bool.not_false, Bool.and_true] at h2
      have := h.all a' b' ha' hb' h1 h2 h3
      split
      · exact List.mem_append.2 (.inl this)
      · exact this
  · simp only [Bool.and_eq_true] at hk
    exact h.from_ kl hk.1
/-- at the end: the items that are handed back, in whatever order -/
def Gathered (l ys : List It) : Prop := (∀ y ∈ ys, wfI y.f0 ∧ wfI y.f1 ∧ y.f2 = cnt l y.f0 y.f1 ∧ y.f2 ≠ 0) ∧ (ys.Pairwise fun x y => ¬ (x.f0 = y.f0 ∧ x.f1 = y.f1)) ∧ ∀ a b, wfI a → wfI b → keyed l a b = true → cnt l a b ≠ 0 → ⟨a, b, cnt l a b⟩ ∈ ys
theorem Met.done {l : List It} {D : DataW Unit} {left : Lit → Bool} {ys : List It} (hM : MapI l D) (h : Met l D left ys) (h0 : ∀ kl, left kl = false) : Gathered l ys :=
  ⟨fun y hy => ⟨(h.of y hy).1, (h.of y hy).2.1, (h.of y hy).2.2.1, (h.of y hy).2.2.2.1⟩, h.once, fun a b ha hb hk hc => h.all a b ha hb (by rw [hM.has a b ha hb]; exact hk) (h0 _) hc⟩
theorem Gathered.perm {l ys zs : List It} (h : Gathered l ys) (hp : zs.Perm ys) : Gathered l zs :=
  ⟨fun y hy => h.1 y (hp.mem_iff.1 hy), (hp.symm.pairwise_iff (fun {x y} hxy e => hxy ⟨e.1.symm, e.2.symm⟩)).1 h.2.1, fun a b ha hb hk hc => hp.mem_iff.2 (h.2.2 a b ha hb hk hc)⟩
theorem zeroI (w : World) : (zeroValue 3).run Try.prog w = .ok (.int .i64 0) w := by kernel_rfl
set_option maxRecDepth 100000 in
set_option maxHeartbeats 2000000 in
theorem impl_gathered0 (v : Value) (l : List It) (w : World) (h : Sl kIt w v l) (hwf : ∀ x ∈ l, wfI x.f0 ∧ wfI x.f1) (hl : l.length < 1099511627776) : Calls Try.prog 54 #[v] w fun e w' => ∃ u ys, e = .returned u ∧ kIt.R 44 w' w.heap.size okT u ys ∧ Below w.heap.size w w' ∧ Gathered l ys ∧ ys.Pairwise (fun a b => ltIt b a = false) := by
  have hmm := @run_makeMap Try.prog
  obtain ⟨A, c_, rfl, HC, hr⟩ := h
  have hm := Kd.C_max hr
  have HR := Aside0.mk hr
  clear hr
  have HB := Aside0.mk (Below.refl w.heap.size w)
  go_enter Try.func54, Try.ntmps54
  go_wp2
  go_loopw [12] (fun i wr => ∃ k : Nat, k ≤ l.length ∧ i = .int .i64 k ∧ Aside0 (∃ D, wr.ownsMap Try.prog 44 (plainElem (H := Unit) Try.prog 3) w.heap.size k D ∧ MapI (l.take k) D) ∧ Aside0 (Below w.heap.size w wr)) (fun i _ => l.length - (intOf i).toNat)
  case atStart => exact ⟨0, Nat.zero_le _, rfl, ⟨_, World.ownsMap_made _ _ _ _, MapI.start⟩, ⟨(Below.refl _ _).alloc (Nat.le_refl _) _⟩⟩
  case round =>
    obtain ⟨k, hk, rfl, HM, HB⟩ := hrel
    by_cases hlt : k < l.length
    · obtain ⟨ad, x, e, HX, h0, h1, h2⟩ := rdIt HR.out HB.out hlt
      cases e
      obtain ⟨D, hown, hMI⟩ := HM.out
      have hx := hwf x (List.mem_of_getElem? HX.out)
      go_wp2
      refine name_world fun W hW => ?_
      have b0 : W.cell? ⟨wr.heap.size, 0, none⟩ = some (.int .i64 x.f0) := by rw [hW]; exact blk_cell (blk_new _ _) 0
      have b1 : W.cell? ⟨wr.heap.size, 1, none⟩ = some (.int .i64 x.f1) := by rw [hW]; exact blk_cell (blk_new _ _) 1
      have b2 : W.cell? ⟨wr.heap.size, 2, none⟩ = some (.int .i64 x.f2) := by rw [hW]; exact blk_cell (blk_new _ _) 2
      have hB1 : w.heap.size < wr.heap.size := hown.lt
      have hownW : W.drew.ownsMap Try.prog 44 (plainElem (H := Unit) Try.prog 3) w.heap.size k D := by
        rw [hW]
        exact hown.alloc _
      have HBW : Below w.heap.size w W.drew := by rw [hW]; exact below_drew (below_alloc HB.out _)
      obtain ⟨c, st, w2, hat, hlook, hent, hlook2, hsto⟩ := map_add lawIt Try.underlying91 Try.underlying3 zeroI hownW (by unfold maxLen; omega) (keyIt hx.1 hx.2 wf0)
      rw [hMI.at_ _ _ hx.1 hx.2] at hat
      have hc : cnt (l.take k) x.f0 x.f1 = c := by simpa using hat
      obtain ⟨w4, hst, hown4, hgr⟩ := hsto (wrap64 (c + x.f2)) (wrap64_wf _)
      clear hsto hat hown hownW
      have hst' : (Instr.entryStore 91 (.map (some w.heap.size)) (.int .i64 (st : Int)) (.int .i64 (wrap64 (c + x.f2)))).run Try.prog w2 = .ok () w4 := hst
      have hent' : (Instr.mapEntry 91 (.map (some w.heap.size)) (.agg #[.int .i64 x.f0, .int .i64 x.f1, .int .i64 0])).run Try.prog W.drew = .ok (.tuple #[.int .i64 c, .int .i64 (st : Int)]) w2 := hent
      clear hst hent
      have HM2 : Aside0 (∃ D, w4.ownsMap Try.prog 44 (plainElem (H := Unit) Try.prog 3) w.heap.size (k + 1) D ∧ MapI (l.take (k + 1)) D) := ⟨_, hown4, by rw [take_snoc HX.out, ← hc]; exact hMI.step hx.1 hx.2⟩
      have HB4 : Aside0 (Below w.heap.size w w4) := ⟨HBW.grown hgr HBW.size (fun j hj => by cases hj; exact Nat.le_refl _)⟩
      clear hown4 hgr HBW hMI hW
      go_region
      all_goals go_wp2
      all_goals go_roundw
      case rel => exact ⟨k + 1, by omega, by go_num, HM2, HB4⟩
      case measure => simp [intOf]; omega
    · obtain rfl : k = l.length := by omega
      obtain ⟨D, hown, hMI⟩ := HM.out
      rw [List.take_length] at hMI
      clear HM hmm
      have hB1 : w.heap.size < wr.heap.size := hown.lt
      have hsize : Maps.size D ≤ l.length := by
        obtain ⟨es, _, _, _, hs, rfl⟩ := hown
        show (((es.toList.map (rg Try.prog 44 (plainElem (H := Unit) Try.prog 3))).foldr DataW.insert [])).length ≤ l.length
        rw [Go.length_sorted]; simpa using hs
      go_wp2_with (first | (at_range; refine wpList_range_own _ rfl _ 91 rfl 44 3 (Keyed.of_law lawIt) Try.underlying91 _ w.heap.size l.length D rfl ((hown.alloc _).alloc _) ?_; intro w0 hrg0 hg0 hs0) | go_in)
      go_frame
      obtain ⟨r, hr⟩ : ∃ r, r = wr.heap.size + 2 := ⟨_, rfl⟩
      obtain ⟨ob, hob⟩ : ∃ ob, ob = wr.heap.size + 1 := ⟨_, rfl⟩
      have er : ((wr.alloc (Obj.cells #[] 44)).alloc (Obj.cells #[Value.slice (some ⟨wr.heap.size, 0, none⟩) 0 0] 23)).heap.size = r := by rw [hr]; simp
      rw [er] at hrg0 ⊢
      rw [← hob]
      have HO : Aside0 (kIt.R 44 w0 w.heap.size (fun q => q ≠ ob ∧ q ≠ w.heap.size ∧ q ≠ r) (.slice (some ⟨wr.heap.size, 0, none⟩) 0 0) []) := by
        have h1 : (wr.alloc (Obj.cells #[] 44)).heap[wr.heap.size]? = some (.cells #[] 44 (0, 0)) := blk_new _ _
        have h2 : w0.heap[wr.heap.size]? = some (.cells #[] 44 (0, 0)) := by
          rw [hg0.block _ (by simp; omega) (by simp)]; exact blk_alloc h1 _
        exact ⟨own_of_cells (d := kIt) (xs := []) vIt (fun _ => rfl) (by decide) (fun _ _ _ x => kIt_M.2 rfl) h2 (by simp) (by simp) (by unfold maxLen; omega) (by omega) ⟨by omega, by omega, by omega⟩ (fun j x hj => by simp at hj)⟩
      have HX0 : Aside0 (w0.heap[ob]? = some (.cells #[.slice (some ⟨wr.heap.size, 0, none⟩) 0 0] 23 (0, 0))) := by
        constructor
        rw [hob, hg0.block _ (by simp) (by simp)]
        exact blk_two _ _ _
      have HB0 : Aside0 (Below w.heap.size w w0) := ⟨(below_alloc (below_alloc HB.out _) _).grown hg0 (by simp; have := HB.out.size; omega) (fun j hj => by cases hj)⟩
      have HR0 := Aside0.mk hrg0
      have hob1 : w.heap.size < ob := by omega
      have hobr : ob ≠ r := by omega
      clear hrg0 hg0 hs0 er hown HB
      have hBr : w.heap.size ≤ r := by omega
      clear hr hob
      generalize hv0 : Value.slice (some ⟨wr.heap.size, 0, none⟩) 0 0 = v0 at HO HX0
      go_loopw [] (fun wq => ∃ (left : Lit → Bool) (cn : Nat) (vv : Value) (ys : List It), ys.length + cn ≤ l.length ∧ Aside0 (wq.ranges Try.prog 44 (plainElem (H := Unit) Try.prog 3) w.heap.size r l.length D left cn) ∧ Aside0 (Met l D left ys) ∧ Aside0 (kIt.R 44 wq w.heap.size (fun q => q ≠ ob ∧ q ≠ w.heap.size ∧ q ≠ r) vv ys) ∧ Aside0 (wq.heap[ob]? = some (.cells #[vv] 23 (0, 0))) ∧ Aside0 (Below w.heap.size w wq)) (fun wq => wq.rangeLeft w.heap.size r)
      case atStart => exact ⟨Maps.has D, Maps.size D, v0, [], by simpa using hsize, HR0, ⟨Met.start l D⟩, HO, HX0, HB0⟩
      case round =>
        obtain ⟨left, cn, vv, ys, hle, HRG, HMet, HO2, HX2, HB2⟩ := hrel
        go_wp2_with (first | (at_next; refine wpList_next_ranges _ rfl _ rfl 44 (Keyed.of_law lawIt) (plainElem (H := Unit) Try.prog 3) (fun x : It => Value.agg #[.int .i64 x.f0, .int .i64 x.f1, .int .i64 x.f2]) (Value.int .i64) (fun key kl hk => by obtain ⟨x, hx, _⟩ := keyIt_inv hk; exact ⟨x, hx⟩) (fun v y hv => by obtain ⟨c, rfl, _⟩ := plainElem_int_inv Try.underlying3 hv; exact ⟨c, rfl⟩) w.heap.size r _ _ _ _ rfl HRG.out ?_ ?_) | go_in)
        · intro hc0 hl0
          have HG := Aside0.mk (HMet.out.done hMI hl0)
          obtain ⟨A2, c2, rfl, hc2, _⟩ := Kd.R_reads HO2.out
          have hne : ∀ q, (Value.slice A2 ys.length c2).ownBlock = some q → q ≠ ob := fun q hq => (HO2.out.1 q hq).1
          have hbs := Kd.R_base HO2.out
          have hx0 : wr.cell? ⟨ob, 0, none⟩ = some (.slice A2 ys.length c2) := blk_cell HX2.out 0
          have hsort := Aside0.mk (sortIt A2 c2 ob _ _ _ ys wr HO2.out hx0 (blk_lt HX2.out) (fun a ha e => hne a.block (by rw [ha]; rfl) e.symm) (by omega))
          go_wp2_with (go_at_call 87; refine hsort.out.mono ?_; rintro e w' ⟨rfl, zs, hp, hso, hR3, hgr⟩; have hx3 : w'.cell? ⟨ob, 0, none⟩ = some (.slice A2 ys.length c2) := (by have h5 := hgr.block ob (blk_lt HX2.out) (fun e => hne ob e.symm rfl); rw [HX2.out] at h5; exact blk_cell h5 0); have HB3 := Aside0.mk (HB2.out.grown hgr HB2.out.size hbs); have HR3 := Aside0.mk hR3; have HP := Aside0.mk (HG.out.perm hp); have HS := Aside0.mk hso; clear hgr hp hso hR3)
          go_ret
          exact ⟨_, zs, rfl, Kd.R_mono HR3.out (fun _ _ => trivial), HB3.out, HP.out, HS.out⟩
        · intro x c kl yd yp w2 cn2 hkey hlk hv hat hrg2 hlt hg2 hs2 hen
          obtain ⟨x', ex, rfl, wx0, wx1, wx2⟩ := keyIt_inv hkey
          simp at ex
          obtain rfl : x = x' := It.ext' ex.1 ex.2.1 ex.2.2
          clear ex
          obtain ⟨a, b, wa, wb, ekl⟩ := hMI.only _ (HMet.out.from_ _ hlk)
          have ekey := (Keyed.of_law lawIt).inj hkey (by rw [ekl]; exact keyIt wa wb wf0)
          obtain ⟨x0, x1, x2⟩ := x
          simp at ekey
          obtain ⟨rfl, rfl, rfl⟩ := ekey
          rw [ekl] at hlk hat hrg2
          clear ekl hkey
          obtain ⟨c', ec, hyd, hwc⟩ := plainElem_int_inv Try.underlying3 hv
          have hcc : cnt l x0 x1 = c := by
            have h5 := hat (.lit (.int .i64 0))
            rw [hMI.at_ _ _ wa wb] at h5
            simp at hyd ec
            rw [hyd.1, ← ec] at h5
            simpa using h5
          have HMet2 := Aside0.mk (HMet.out.step hMI wa wb hlk)
          rw [hcc] at HMet2
          clear hv hat hyd hwc ec hs2
          have HO3 := Aside0.mk (Kd.R_grown HO2.out hg2 (fun q hq e => hq.2.2 (Option.some.inj e)))
          have hobl := blk_lt HX2.out
          have HX3 : Aside0 (w2.heap[ob]? = some (.cells #[vv] 23 (0, 0))) := ⟨by rw [hg2.block ob hobl (fun e => hobr (Option.some.inj e)), HX2.out]⟩
          have HB3 := Aside0.mk (HB2.out.grown hg2 HB2.out.size (fun j hj => by cases hj; exact hBr))
          have HRG3 := Aside0.mk hrg2
          have hx6 : w2.cell? ⟨ob, 0, none⟩ = some vv := blk_cell HX3.out 0
          clear hrg2 hg2
          have hobl2 : ob < w2.heap.size := blk_lt HX3.out
          have hobn : ob ≠ w2.heap.size := by omega
          by_cases hcz : c = 0
          · subst hcz
            rw [if_neg (by omega)] at HMet2
            go_wp2
            go_roundw
            case rel => exact ⟨_, cn2, vv, ys, by omega, ⟨HRG3.out.alloc _⟩, HMet2, ⟨Kd.R_below HO3.out (below_alloc (Below.refl _ _) _)⟩, ⟨blk_alloc HX3.out _⟩, ⟨below_alloc HB3.out _⟩⟩
            case measure => rw [(HRG3.out.alloc _).left_eq, HRG.out.left_eq]; omega
          · rw [if_pos (by omega)] at HMet2
            have HZ1 : Aside0 (w2.heap.size + 1 = (w2.alloc (Obj.cells #[Value.int .i64 x0, Value.int .i64 x1, Value.int .i64 c] 44)).heap.size) := ⟨by simp⟩
            go_wp2_with (at_builtin; refine appIt (w0 := w) (base := w.heap.size) (xs := ys) (ok := fun q => q ≠ ob ∧ q ≠ w.heap.size ∧ q ≠ r) rfl rfl (congrArg (fun n => Value.slice (some ⟨n, 0, none⟩) 1 1) HZ1.out) (Kd.R_below HO3.out (below_alloc (Below.refl _ _) _)) ?fresh (below_alloc HB3.out _) ?base (by omega) ?_; (case fresh => intro q hq; have h8 := blk_lt HX3.out; have h9 := HRG3.out.lt; rw [← HZ1.out] at hq; exact ⟨by omega, by omega, by omega⟩); (case base => rw [← HZ1.out]; omega); intro v1 w3 hr3 hb3 hg3 hat3; have HO4 := Aside0.mk hr3; have HG3 := Aside0.mk hg3; have HB4 := Aside0.mk hb3; have HX4 := Aside0.mk (show w3.heap[ob]? = some (.cells #[vv] 23 (0, 0)) from (hg3.block ob (by rw [← HZ1.out]; omega) (fun e => (HO3.out.1 ob e.symm).1 rfl)).trans (blk_alloc HX3.out _)); have hx7 : w3.cell? ⟨ob, 0, none⟩ = some vv := blk_cell HX4.out 0; have hf7 : w3.frozen? ⟨ob, 0, none⟩ = false := (by simp [World.frozen?, HX4.out]); obtain ⟨A4, c4, rfl, hc4, _⟩ := Kd.R_reads hr3; clear hr3 hb3 hg3 hat3)
            have HRG5 : ∀ u, (w3.setCell ⟨ob, 0, none⟩ u).ranges Try.prog 44 (plainElem (H := Unit) Try.prog 3) w.heap.size r l.length D (fun z => left z && !z.sameKey (litIt x0 x1 0)) cn2 := fun u =>
              ((HRG3.out.alloc _).kept HG3.out (fun e => (HO3.out.1 _ e.symm).2.1 rfl) (fun e => (HO3.out.1 _ e.symm).2.2 rfl)).kept (row := some ob) ⟨rfl, rfl, rfl, by simp, fun q _ hne => Below.heap_setCell _ _ _ _ (fun e => hne (by rw [e]))⟩ (fun e => by have := Option.some.inj e; omega) (fun e => hobr (Option.some.inj e).symm)
            go_roundw
            case rel =>
              refine ⟨_, cn2, .slice A4 (ys.length + 1) c4, ys ++ [⟨x0, x1, c⟩], ?_, ⟨HRG5 _⟩, HMet2, ⟨?_⟩, ⟨?_⟩, ⟨?_⟩⟩
              · rw [List.length_append, List.length_singleton]; omega
              · have h6 := HO4.out
                rw [List.length_append, List.length_singleton] at h6
                exact Kd.R_far (p := ⟨ob, 0, none⟩) h6 (fun q hq => hq.1) _
              · simpa using blk_set HX4.out 0 _
              · exact below_set HB4.out (by omega)
            case measure =>
              rw [(HRG5 _).left_eq, HRG.out.left_eq]; omega
/-- what is handed back, in order, is the reference's sum of the items -/
theorem Gathered.eq_items {l ys : List It} (h : Gathered l ys) (hs : ys.Pairwise (fun a b => ltIt b a = false)) (hwf : ∀ x ∈ l, wfI x.f0 ∧ wfI x.f1 ∧ wfI x.f2) : ys = items l := by
  obtain ⟨i1, i2⟩ := items_spec l (fun x hx => (hwf x hx).2.2)
  have hkw : ∀ a b, keyed l a b = true → wfI a ∧ wfI b := fun a b hk => by
    obtain ⟨x, hx, e⟩ := List.any_eq_true.1 hk
    simp only [Bool.and_eq_true, decide_eq_true_eq] at e
    have := hwf x hx
    rw [← e.1, ← e.2]
    exact ⟨this.1, this.2.1⟩
  refine asc_unique (R := fun x y => x.f0 < y.f0 ∨ (x.f0 = y.f0 ∧ x.f1 < y.f1)) (fun x h => by omega) (fun x y z h1 h2 => by omega) ?_ i1 (fun y => ⟨fun hy => ?_, fun hy => ?_⟩)
  · refine (hs.and h.2.1).imp (fun {x y} hxy => ?_)
    obtain ⟨h1, h2⟩ := hxy
    simp [ltIt] at h1
    omega
  · obtain ⟨w0, w1, h3, h4⟩ := h.1 y hy
    refine (i2 y).2 ⟨?_, h3, h4⟩
    cases hk : keyed l y.f0 y.f1 with
    | true => rfl
    | false => rw [cnt_none hk] at h3; exact absurd h3 h4
  · obtain ⟨h1, h2, h3⟩ := (i2 y).1 hy
    obtain ⟨w0, w1⟩ := hkw _ _ h1
    have := h.2.2 y.f0 y.f1 w0 w1 h1 (by rw [← h2]; exact h3)
    rw [← h2] at this
    exact this
theorem impl_gathered (v : Value) (l : List It) (w : World) (h : Sl kIt w v l) (hwf : ∀ x ∈ l, wfI x.f0 ∧ wfI x.f1 ∧ wfI x.f2) (hl : l.length < 1099511627776) : Calls Try.prog 54 #[v] w (RetR kIt 44 w (items l)) :=
  (impl_gathered0 v l w h (fun x hx => ⟨(hwf x hx).1, (hwf x hx).2.1⟩) hl).mono fun _ _ ⟨u, ys, he, hR, hb, hg, hs⟩ => ⟨u, he, by rw [← hg.eq_items hs hwf]; exact hR, hb⟩
end Go.Proofs.Ytbbkimgadohdkaa.X
