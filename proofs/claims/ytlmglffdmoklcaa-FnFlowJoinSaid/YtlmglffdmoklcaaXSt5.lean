/- The walk of the negation of a collection, and the reference's sums by keys. Conditions: none. -/
import Derived.Test.YtlmglffdmoklcaaXSt4
import Derived.Test.YtlmglffdmoklcaaXDrSet
namespace Go.Proofs.Ytlmglffdmoklcaa.X
open Go.RowKit Go.Proofs.YtlmglffdmoklcaaW.PrintWords
set_option linter.unusedVariables false
set_option linter.unusedSimpArgs false

theorem set_take {α : Type} {l : List α} {k : Nat} {x : α} (f : α → α) (hx : l[k]? = some x) : ((l.take k).map f ++ l.drop k).set k (f x) = (l.take (k + 1)).map f ++ l.drop (k + 1) := by
  obtain ⟨hlt, rfl⟩ := List.getElem?_eq_some_iff.1 hx
  have hl : ((l.take k).map f).length = k := by rw [List.length_map, List.length_take]; omega
  rw [List.set_append_right _ _ (by omega), hl, Nat.sub_self, List.drop_eq_getElem_cons hlt, List.set_cons_zero, List.take_succ_eq_append_getElem hlt, List.map_append, List.append_assoc]
  rfl
theorem get_take {α : Type} {l : List α} {k : Nat} {x : α} (f : α → α) (hx : l[k]? = some x) : ((l.take k).map f ++ l.drop k)[k]? = some x := by
  obtain ⟨hlt, rfl⟩ := List.getElem?_eq_some_iff.1 hx
  have hl : ((l.take k).map f).length = k := by rw [List.length_map, List.length_take]; omega
  rw [List.getElem?_append_right (by omega), hl, Nat.sub_self, List.getElem?_drop]; simp [hlt]
theorem len_take {α : Type} {l : List α} {k : Nat} (f : α → α) (hk : k ≤ l.length) : ((l.take k).map f ++ l.drop k).length = l.length := by
  rw [List.length_append, List.length_map, List.length_take, List.length_drop]; omega
set_option maxRecDepth 100000 in
set_option maxHeartbeats 2000000 in
theorem impl_SetLess (v : Value) (s : List It) (w : World) (h : Sl kIt w v s) : Calls Try.prog 23 #[v] w (RetR kIt 93 w (setLess s)) := by
  have HS := Aside0.mk h
  obtain ⟨A, c_, rfl, HC, hr⟩ := h
  have hm := Kd.C_max hr
  have HR := Aside0.mk hr
  clear hr
  cases hs : setOk s
  · have HB := Aside0.mk (Below.refl w.heap.size w)
    go_enter Try.func23, Try.ntmps23
    go_wp2_with (go_at_call 78; ((with_reducible refine (impl_SetOk _ s _ (HS.out.below HB.out)).mono ?_); rintro e w' ⟨rfl, hb⟩; replace HB := Aside0.mk (bthen HB.out hb); clear hb))
    go_ret
    exact RetR.mk (by rw [setLess, hs]; exact Kd.R_nil _ _ _ _ _) HB.out
  · have hl1 := setOk_len hs
    have HB := Aside0.mk (Below.refl w.heap.size w)
    go_enter Try.func23, Try.ntmps23
    go_upto_region 4 with (first
      | (go_at_call 78; ((with_reducible refine (impl_SetOk _ s _ (HS.out.below HB.out)).mono ?_); rintro e wb ⟨rfl, hb⟩; replace HB := Aside0.mk (bthen HB.out hb); (have HN := Aside0.mk (R_none (d := kIt) (e := 93) (base := w.heap.size) (ok := okT) (blk_new wb (.cells #[] 93)) HB.out.size trivial); replace HB := Aside0.mk (below_alloc HB.out (.cells #[] 93))); clear hb))
      | (at_builtin; refine appsIt (w0 := w) (base := w.heap.size) (xs := []) (ys := s) (ok := okT) rfl rfl (HS.out.below HB.out) HN.out (fun _ _ => trivial) HB.out HB.out.size (by first | omega | (simp; omega)) ?_; intro v1 w' hr1 hb1 hg1 ha1; have HO := Aside0.mk hr1; replace HB := Aside0.mk hb1; clear hr1 hb1 hg1 ha1))
    rw [List.nil_append] at HO
    obtain ⟨A3, c3, rfl, hc3, hC3⟩ := Sl.of_R HO.out
    clear hC3
    go_wp2
    go_loopw [13] (fun i wr => ∃ (k : Nat), k ≤ s.length ∧ i = .int .i64 k ∧ Aside0 (kIt.R 93 wr w.heap.size okT (.slice A3 s.length c3) ((s.take k).map negI ++ s.drop k)) ∧ Aside0 (Below w.heap.size w wr)) (fun i _ => s.length - (intOf i).toNat)
    case atStart => exact ⟨0, Nat.zero_le _, rfl, by simpa using HO, HB⟩
    case round =>
      clear HB HO
      obtain ⟨k, hk, rfl, HO, HB⟩ := hrel
      by_cases hlt : k < s.length
      · obtain ⟨g, cap, e, hg1, hg2⟩ := formR HO.out (n := s.length) (len_take negI hk) (by omega)
        cases e
        obtain ⟨x, hx⟩ : ∃ x, s[k]? = some x := ⟨_, List.getElem?_eq_getElem hlt⟩
        have hgx := get_take negI hx
        have HX := Aside0.mk hx
        obtain ⟨ad, x', e, HX', h0, h1, h2⟩ := rdIt (Kd.R_reads' HO.out).2.2 (Below.refl _ _) (k := k) (by rw [len_take negI hk]; exact hlt)
        cases e
        have ex : x' = x := Option.some.inj (HX'.out.symm.trans hgx)
        subst ex
        have h2' : wr.cell? ⟨g, k * 3 + 2, none⟩ = some (.int .i64 x'.f2) := by rw [add_plain] at h2; exact h2
        clear h0 h1 h2 hx
        go_wp2_with (refine storeI (base := w.heap.size) rfl rfl rfl k 2 x' (negI x') (wrap64 (-x'.f2)) (by first | rfl | simp) (by first | rfl | omega) (by first | rfl | (simp [*]; done)) (by kernel_rfl) HO.out hgx hlt (by decide) rfl HB.out ?_; intro w1 hr1 hb1 hg1; have HO2 := Aside0.mk hr1; replace HB := Aside0.mk hb1; clear hr1 hb1 hg1)
        go_roundw
        case rel => exact ⟨k + 1, by omega, by go_num, ⟨by rw [← set_take negI HX.out]; exact HO2.out⟩, HB⟩
        case measure => simp [intOf]; omega
      · obtain rfl : k = s.length := by omega
        rw [List.take_length, List.drop_length, List.append_nil] at HO
        go_wp2
        go_ret
        exact RetR.mk (by rw [setLess, hs]; exact HO.out) HB.out
/-- what there is of a key: the counts, added -/
def keyC (s : List It) (key : Int) : Int := sg (fun x => if x.f0 = key then x.f2 else 0) s
def keyO (s : List It) (key : Int) : List It := onceL (s.filter fun x => decide (x.f0 = key))
def cval (n : Int) : Int := Int.tmod (wrap64 (Int.tmod n 100 + 100)) 100
/-- what is made of a key -/
def keyL (s : List It) (key kind : Int) : List It := if kind = 2 then keyO s key else if kind = 3 then (keyO s key).take 1 else if kind = 1 then (if keyC s key = 0 then [] else [⟨key, cval (keyC s key), 1⟩]) else []
theorem keyO_snoc {s : List It} {k : Nat} {x : It} (hx : s[k]? = some x) (key : Int) : keyO (s.take (k + 1)) key = keyO (s.take k) key ++ (if x.f0 = key ∧ 0 < x.f2 then [oneI x] else []) := by
  rw [take_snoc hx]; unfold keyO onceL; rw [List.filter_append, List.filter_append, List.map_append]
  by_cases h : x.f0 = key
  · by_cases h2 : 0 < x.f2 <;> simp [h, h2]
  · simp [h]
theorem keyO_len (s : List It) (key : Int) : (keyO s key).length ≤ s.length := Nat.le_trans (onceL_len _) (List.length_filter_le _ _)
theorem keyC_snoc {s : List It} {k : Nat} {x : It} (hx : s[k]? = some x) (key : Int) : keyC (s.take (k + 1)) key = keyC (s.take k) key + (if x.f0 = key then x.f2 else 0) := by
  rw [take_snoc hx]; unfold keyC; rw [sg_append]; simp [sg]
theorem keyC_abs (s : List It) (key : Int) : ((keyC s key).natAbs : Int) ≤ massI s := by
  induction s with
  | nil => simp [keyC, massI, sg]
  | cons x s ih => unfold keyC massI at *; simp only [sg]; split <;> omega
theorem massI_take (s : List It) (k : Nat) : massI (s.take k) ≤ massI s := by
  conv => rhs; rw [← List.take_append_drop k s, massI_append]
  have := massI_nonneg (s.drop k); omega
set_option maxRecDepth 100000 in
set_option maxHeartbeats 400000 in
theorem spec_l3Count (n : Int) (w : World) : Calls Try.prog 188 #[.int .i64 n] w (fun e w' => e = .returned (.int .i64 (cval n)) ∧ w = w') := by
  go_enter Try.func188, Try.ntmps188
  go_wp2
  go_ret
  exact ⟨rfl, rfl⟩
set_option maxRecDepth 100000 in
set_option maxHeartbeats 4000000 in
theorem spec_l3Key (v : Value) (s : List It) (key kind : Int) (w : World) (h : Sl kIt w v s) (hm0 : massI s < 4611686018427387904) (hl1 : s.length ≤ 100000) (hk1 : 1 ≤ kind) (hk3 : kind ≤ 3) : Calls Try.prog 162 #[v, .int .i64 key, .int .i64 kind] w (RetR kIt 93 w (keyL s key kind)) := by
  obtain ⟨A, c_, rfl, HC, hr⟩ := h
  have hm := Kd.C_max hr
  have HR := Aside0.mk hr
  clear hr
  rcases (show kind = 1 ∨ kind = 2 ∨ kind = 3 by omega) with rfl | rfl | rfl
  · have HB := Aside0.mk (Below.refl w.heap.size w)
    go_enter Try.func162, Try.ntmps162
    have HN := Aside0.mk (R_none (d := kIt) (e := 93) (base := w.heap.size) (ok := okT) (blk_new w (.cells #[] 93)) (Nat.le_refl _) trivial)
    replace HB := Aside0.mk (below_alloc HB.out (.cells #[] 93))
    go_wp2
    go_loopw [7, 8, 9] (fun o n i wr => ∃ (k : Nat), k ≤ s.length ∧ i = .int .i64 k ∧ n = .int .i64 (keyC (s.take k) key) ∧ Aside0 (kIt.R 93 wr w.heap.size okT o []) ∧ Aside0 (Below w.heap.size w wr)) (fun _ _ i _ => s.length - (intOf i).toNat)
    case atStart => exact ⟨0, Nat.zero_le _, rfl, by simp [keyC, sg], HN, HB⟩
    case round =>
      clear HB HN
      obtain ⟨k, hk, rfl, rfl, HO, HB⟩ := hrel
      by_cases hlt : k < s.length
      · obtain ⟨ad, x, e, HX, h0, h1, h2⟩ := rdIt HR.out HB.out hlt
        cases e
        have HC := Aside0.mk (keyC_snoc HX.out key)
        have hc1 := keyC_abs (s.take k) key
        have hc2 := massI_take s k
        have hx2 := massI_mem (List.mem_of_getElem? HX.out)
        by_cases hd : x.f0 = key
        · have hdb : (x.f0 == key) = true := by simpa using hd
          have HD := Aside0.mk hd
          clear hd
          by_cases hp : 0 < x.f2
          all_goals
            go_wp2
            go_roundw
            case rel => exact ⟨k + 1, by omega, by go_num, by rw [HC.out, if_pos HD.out], HO, HB⟩
            case measure => simp [intOf]; omega
        · have hdb : (x.f0 == key) = false := by simpa using hd
          have HD := Aside0.mk hd
          clear hd
          go_wp2
          go_roundw
          case rel => exact ⟨k + 1, by omega, by go_num, by rw [HC.out, if_neg HD.out, Int.add_zero], HO, HB⟩
          case measure => simp [intOf]; omega
      · obtain rfl : k = s.length := by omega
        rw [List.take_length]
        have hws := HB.out.size
        cases hz : (keyC s key == 0)
        · have HZ := Aside0.mk hz
          have hz2 : (keyC s key != 0) = true := by rw [bne, hz]; rfl
          have hnil : ([] : List It).length ≤ 0 := Nat.le_refl _
          go_wp2_with (first | (go_at_call 188; ((with_reducible refine (spec_l3Count _ _).mono ?_); rintro e w' ⟨rfl, rfl⟩)) | (at_builtin; refine appIt (w0 := w) (base := w.heap.size) (xs := ([] : List It)) (ok := okT) rfl rfl rfl HO.out (fun _ _ => trivial) HB.out (by have := HB.out.size; omega) (by omega) ?_; intro v1 w1 hr1 hb1 hg1 ha1; have HO2 := Aside0.mk hr1; have HG_ := Aside0.mk hg1; replace HB := Aside0.mk hb1; clear hr1 hb1 hg1 ha1))
          go_ret
          exact RetR.mk (by have h0 := HZ.out; simp at h0; unfold keyL; rw [if_neg (by decide), if_neg (by decide), if_pos rfl, if_neg h0]; exact HO2.out) HB.out
        · have HZ := Aside0.mk hz
          have hz2 : (keyC s key != 0) = false := by rw [bne, hz]; rfl
          go_wp2
          go_ret
          exact RetR.mk (by have h0 := HZ.out; simp at h0; unfold keyL; rw [if_neg (by decide), if_neg (by decide), if_pos rfl, if_pos h0]; exact HO.out) HB.out
  · have HB := Aside0.mk (Below.refl w.heap.size w)
    go_enter Try.func162, Try.ntmps162
    have HN := Aside0.mk (R_none (d := kIt) (e := 93) (base := w.heap.size) (ok := okT) (blk_new w (.cells #[] 93)) (Nat.le_refl _) trivial)
    replace HB := Aside0.mk (below_alloc HB.out (.cells #[] 93))
    go_wp2
    go_loopw [7, 8, 9] (fun o n i wr => ∃ (k : Nat) (n' : Int), k ≤ s.length ∧ i = .int .i64 k ∧ n = .int .i64 n' ∧ Aside0 (kIt.R 93 wr w.heap.size okT o (keyO (s.take k) key)) ∧ Aside0 (Below w.heap.size w wr)) (fun _ _ i _ => s.length - (intOf i).toNat)
    case atStart => exact ⟨0, 0, Nat.zero_le _, rfl, rfl, by simpa [keyO, onceL] using HN, HB⟩
    case round =>
      clear HB HN
      obtain ⟨k, n', hk, rfl, rfl, HO, HB⟩ := hrel
      by_cases hlt : k < s.length
      · obtain ⟨ad, x, e, HX, h0, h1, h2⟩ := rdIt HR.out HB.out hlt
        cases e
        have HC := Aside0.mk (keyO_snoc HX.out key)
        have hpl : (keyO (s.take k) key).length ≤ k := Nat.le_trans (keyO_len _ key) (by rw [List.length_take]; omega)
        have hws := HB.out.size
        by_cases hd : x.f0 = key
        · have hdb : (x.f0 == key) = true := by simpa using hd
          have HD := Aside0.mk hd
          clear hd
          by_cases hp : 0 < x.f2
          · go_wp2_with (at_builtin; refine appIt (w0 := w) (base := w.heap.size) (xs := keyO (s.take k) key) (ok := okT) rfl rfl rfl HO.out (fun _ _ => trivial) HB.out (by have := HB.out.size; omega) (by omega) ?_; intro v1 w1 hr1 hb1 hg1 ha1; have HO2 := Aside0.mk hr1; have HG_ := Aside0.mk hg1; replace HB := Aside0.mk hb1; clear hr1 hb1 hg1 ha1)
            go_roundw
            case rel => exact ⟨k + 1, _, by omega, by go_num, rfl, ⟨by rw [HC.out, if_pos ⟨HD.out, hp⟩]; have h4 := HO2.out; rw [← HD.out] at h4 ⊢; exact h4⟩, HB⟩
            case measure => simp [intOf]; omega
          · go_wp2
            go_roundw
            case rel => exact ⟨k + 1, _, by omega, by go_num, rfl, ⟨by rw [HC.out, if_neg (fun e => hp e.2), List.append_nil]; exact HO.out⟩, HB⟩
            case measure => simp [intOf]; omega
        · have hdb : (x.f0 == key) = false := by simpa using hd
          have HD := Aside0.mk hd
          clear hd
          go_wp2
          go_roundw
          case rel => exact ⟨k + 1, _, by omega, by go_num, rfl, ⟨by rw [HC.out, if_neg (fun e => HD.out e.1), List.append_nil]; exact HO.out⟩, HB⟩
          case measure => simp [intOf]; omega
      · obtain rfl : k = s.length := by omega
        rw [List.take_length] at HO
        go_wp2
        go_ret
        exact RetR.mk (by simpa [keyL] using HO.out) HB.out
  · have HB := Aside0.mk (Below.refl w.heap.size w)
    go_enter Try.func162, Try.ntmps162
    have HN := Aside0.mk (R_none (d := kIt) (e := 93) (base := w.heap.size) (ok := okT) (blk_new w (.cells #[] 93)) (Nat.le_refl _) trivial)
    replace HB := Aside0.mk (below_alloc HB.out (.cells #[] 93))
    go_wp2
    go_loopw [7, 8, 9] (fun o n i wr => ∃ (k : Nat) (n' : Int), k ≤ s.length ∧ i = .int .i64 k ∧ n = .int .i64 n' ∧ Aside0 (kIt.R 93 wr w.heap.size okT o ((keyO (s.take k) key).take 1)) ∧ Aside0 (Below w.heap.size w wr)) (fun _ _ i _ => s.length - (intOf i).toNat)
    case atStart => exact ⟨0, 0, Nat.zero_le _, rfl, rfl, by simpa [keyO, onceL] using HN, HB⟩
    case round =>
      clear HB HN
      obtain ⟨k, n', hk, rfl, rfl, HO, HB⟩ := hrel
      by_cases hlt : k < s.length
      · obtain ⟨ad, x, e, HX, h0, h1, h2⟩ := rdIt HR.out HB.out hlt
        cases e
        have HC := Aside0.mk (keyO_snoc HX.out key)
        have hpl : ((keyO (s.take k) key).take 1).length ≤ k := by have h5 := keyO_len (s.take k) key; have h6 : (s.take k).length ≤ k := (by rw [List.length_take]; omega); rw [List.length_take]; omega
        have hws := HB.out.size
        by_cases hd : x.f0 = key
        · have hdb : (x.f0 == key) = true := by simpa using hd
          have HD := Aside0.mk hd
          clear hd
          by_cases hp : 0 < x.f2
          · obtain ⟨acc, hacc⟩ : ∃ acc, acc = (keyO (s.take k) key).take 1 := ⟨_, rfl⟩
            rw [← hacc] at HO hpl
            have HA := Aside0.mk hacc
            clear hacc
            obtain ⟨A5, c5, e5, hc5, hC5⟩ := Sl.of_R HO.out
            cases e5
            clear hc5 hC5
            by_cases hz : acc.length = 0
            · have HZ : Aside0 (keyO (s.take k) key = []) := ⟨List.eq_nil_of_length_eq_zero (by rw [HA.out, List.length_take] at hz; omega)⟩
              have hzb : ((acc.length : Int) == 0) = true := by rw [hz]; rfl
              obtain rfl : acc = [] := List.eq_nil_of_length_eq_zero hz
              clear hz
              go_wp2_with (at_builtin; refine appIt (w0 := w) (base := w.heap.size) (xs := ([] : List It)) (ok := okT) rfl rfl rfl HO.out (fun _ _ => trivial) HB.out (by have := HB.out.size; omega) (by omega) ?_; intro v1 w1 hr1 hb1 hg1 ha1; have HO2 := Aside0.mk hr1; have HG_ := Aside0.mk hg1; replace HB := Aside0.mk hb1; clear hr1 hb1 hg1 ha1)
              go_roundw
              case rel => exact ⟨k + 1, _, by omega, by go_num, rfl, ⟨by rw [HC.out, if_pos ⟨HD.out, hp⟩]; have h4 := HO2.out; rw [← HD.out] at h4; rw [← HD.out] at HZ; rw [← HD.out, HZ.out]; exact h4⟩, HB⟩
              case measure => simp [intOf]; omega
            · have hzb : ((acc.length : Int) == 0) = false := beq_eq_false_iff_ne.2 (by omega)
              have HZ := Aside0.mk hz
              clear hz
              go_wp2
              go_roundw
              case rel => exact ⟨k + 1, _, by omega, by go_num, rfl, ⟨by rw [HC.out, if_pos ⟨HD.out, hp⟩, List.take_append_of_le_length (by have := HZ.out; rw [HA.out, List.length_take] at this; omega), ← HA.out]; exact HO.out⟩, HB⟩
              case measure => simp [intOf]; omega
          · go_wp2
            go_roundw
            case rel => exact ⟨k + 1, _, by omega, by go_num, rfl, ⟨by rw [HC.out, if_neg (fun e => hp e.2), List.append_nil]; exact HO.out⟩, HB⟩
            case measure => simp [intOf]; omega
        · have hdb : (x.f0 == key) = false := by simpa using hd
          have HD := Aside0.mk hd
          clear hd
          go_wp2
          go_roundw
          case rel => exact ⟨k + 1, _, by omega, by go_num, rfl, ⟨by rw [HC.out, if_neg (fun e => HD.out e.1), List.append_nil]; exact HO.out⟩, HB⟩
          case measure => simp [intOf]; omega
      · obtain rfl : k = s.length := by omega
        rw [List.take_length] at HO
        go_wp2
        go_ret
        exact RetR.mk (by simpa [keyL] using HO.out) HB.out
end Go.Proofs.Ytlmglffdmoklcaa.X
