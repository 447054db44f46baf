/- Conditions: none. -/
import Derived.Test.YtkdendlgaaimbaaYPHeldI
namespace Go.Proofs.Ytkdendlgaaimbaa.X
open Go.RowKit Go.Proofs.YtkdendlgaaimbaaW.PrintWords
set_option linter.unusedVariables false
set_option linter.unusedSimpArgs false
def manyI : List (List It) → Nat
 | [] => 0
 | l :: ls => l.length + manyI ls
def marksLI (k : Int) : List (List It) → List (List It)
 | [] => []
 | l :: ls => marksI k l.length :: marksLI (k + 3 * (l.length : Int)) ls
theorem marksLI_len : ∀ (ls : List (List It)) (k : Int), (marksLI k ls).length = ls.length
 | [], _ => rfl
 | l :: ls, k => by rw [marksLI, List.length_cons, marksLI_len ls, List.length_cons]
theorem manyI_snoc : ∀ (A : List (List It)) (l : List It), manyI (A ++ [l]) = manyI A + l.length
 | [], l => by simp [manyI]
 | a :: A, l => by rw [List.cons_append, manyI, manyI, manyI_snoc A l]; omega
theorem marksLI_snoc : ∀ (A : List (List It)) (l : List It) (k : Int), marksLI k (A ++ [l]) = marksLI k A ++ [marksI (k + 3 * (manyI A : Int)) l.length]
 | [], l, k => by simp [marksLI, manyI]
 | a :: A, l, k => by
  rw [List.cons_append, marksLI, marksLI, marksLI_snoc A l, List.cons_append, manyI]
  congr 3
  have : k + 3 * (a.length : Int) + 3 * (manyI A : Int) = k + 3 * ((a.length + manyI A : Nat) : Int) := by omega
  rw [this]
theorem manyI_take : ∀ (ls : List (List It)) (i : Nat) (h : i < ls.length), manyI (ls.take i) + (ls[i]).length ≤ manyI ls
 | [], i, h => by simp at h
 | l :: ls, 0, h => by simp [manyI]
 | l :: ls, i + 1, h => by
  have := manyI_take ls i (by simpa using h)
  rw [List.take_succ_cons, manyI, manyI]
  simp only [List.getElem_cons_succ]
  omega
set_option maxRecDepth 100000 in
set_option maxHeartbeats 1000000 in
theorem laws_markItemSS (P0 : Nat → Prop) (v : Value) (ls : List (List It)) (k0 : Int) (w0 w : World) (hB : Below w0.heap.size w0 w) (h : Kd.S (Kd.slice 118 kIt) 46 w w0.heap.size P0 v ls) (hk0 : 0 ≤ k0) (hl : k0 + 3 * (manyI ls : Int) < 4611686018427387904) :
  Calls Try.prog 64 #[v, .int .i64 k0] w fun e w' => e = .returned (.int .i64 (k0 + 3 * (manyI ls : Int))) ∧ Kd.S (Kd.slice 118 kIt) 46 w' w0.heap.size P0 v (marksLI k0 ls) ∧ Below w0.heap.size w0 w' ∧ Kept w w' P0 := by
 have HO := Aside0.mk h
 have HB := Aside0.mk hB
 have HK := Aside0.mk (Kept.refl w P0)
 clear hB h
 obtain ⟨A, c, rfl⟩ := Kd.S_slice HO.out
 have hmx := Kd.C_max (Kd.S_reads' HO.out).2.2
 go_enter Try.func64, Try.ntmps64
 go_wp2
 go_loopw [1, 5] (fun q i wr => ∃ k : Nat, k ≤ ls.length ∧ q = .int .i64 (k0 + 3 * (manyI (ls.take k) : Int)) ∧ i = .int .i64 k ∧ Aside0 (Kd.S (Kd.slice 118 kIt) 46 wr w0.heap.size P0 (.slice A ls.length c) (marksLI k0 (ls.take k) ++ ls.drop k)) ∧ Aside0 (Below w0.heap.size w0 wr) ∧ Aside0 (Kept w wr P0)) (fun _ i _ => ls.length - (intOf i).toNat)
 case atStart => exact ⟨0, Nat.zero_le _, by simp [manyI], rfl, by simpa [marksLI] using HO, HB, HK⟩
 case round =>
  obtain ⟨k, hk, rfl, rfl, HO1, HB, HK⟩ := hrel
  by_cases hlt : k < ls.length
  ·have hA : (marksLI k0 (ls.take k)).length = k := by rw [marksLI_len, List.length_take]; omega
   have hlen : (marksLI k0 (ls.take k) ++ ls.drop k).length = ls.length := by rw [List.length_append, hA, List.length_drop]; omega
   obtain ⟨g, cap, e, hg1, hg2⟩ := Kd.S_form HO1.out (by rw [hlen]; omega)
   rw [hlen] at e
   cases e
   obtain ⟨oki, cs, hcl, hM, hcc, hoki, HH⟩ := Kd.S_lend HO1.out [] (k : Int) (by omega) (by omega)
   have hget : (marksLI k0 (ls.take k) ++ ls.drop k).getD (k : Int).toNat [] = ls[k] := by
    rw [Int.toNat_natCast, List.getD_eq_getElem?_getD, List.getElem?_append_right (by omega), hA, Nat.sub_self, List.drop_eq_getElem_cons hlt]; rfl
   rw [hget] at hM
   obtain ⟨u, rfl, hu⟩ := hM
   have c0 : wr.cell? ⟨g, k, none⟩ = some u := by simpa [show (Kd.slice 118 kIt).sz = 1 from rfl] using hcc 0 u rfl
   have HU := Aside0.mk hu
   have HC := Aside0.mk HH
   have HI := Aside0.mk hoki
   have hm := manyI_take ls k hlt
   clear hu HH hoki hcc hcl hget
   go_wp2_with (go_at_call 65; refine (laws_markItemS oki u ls[k] (k0 + 3 * (manyI (ls.take k) : Int)) w0 wr HB.out HU.out (by omega) (by omega)).mono ?_; rintro e w' ⟨rfl, ho, hb, hk2⟩; have HS := Aside0.mk (Kd.H_back (Kd.H_step HC.out (fun q _ hq hlt => hk2.2 q hlt hq)) (x' := marksI (k0 + 3 * (manyI (ls.take k) : Int)) (ls[k]).length) (okp := oki) ⟨u, rfl, ho⟩ (fun _ hq => hq)); replace HB := Aside0.mk hb; replace HK := Aside0.mk (HK.out.then_ hk2 (fun q hq => .inl (HI.out q hq).1)); clear ho hb hk2)
   go_roundw
   case rel =>
    have ht : ls.take (k + 1) = ls.take k ++ [ls[k]] := by rw [List.take_add_one, List.getElem?_eq_getElem hlt]; rfl
    refine ⟨k + 1, by omega, ?_, by go_num, ⟨?_⟩, HB, HK⟩
    ·rw [ht, manyI_snoc]; congr 1; omega
    ·have := HS.out
     rw [Int.toNat_natCast, set_mid _ _ _ _ hA hlt] at this
     rw [ht, marksLI_snoc]
     exact this
   case measure => simp [intOf]; omega
  ·have hk' : k = ls.length := by omega
   subst hk'
   rw [List.take_of_length_le (Nat.le_refl _), List.drop_of_length_le (Nat.le_refl _), List.append_nil] at HO1
   rw [List.take_of_length_le (Nat.le_refl _)]
   go_wp2
   go_ret
   exact ⟨rfl, HO1.out, HB.out, HK.out⟩
theorem underItSS : Try.prog.underlying 63 = some (.slice 46) := Try.underlying63
set_option maxRecDepth 100000 in
set_option maxHeartbeats 400000 in
theorem laws_toItem (x : It) (w : World) : Calls Try.prog 163 #[.agg #[.int .i64 x.f0, .int .i64 x.f1, .int .i64 x.f2]] w (RetV w (.agg #[.int .i64 x.f0, .int .i64 x.f1, .int .i64 x.f2])) := by
 have HB := Aside0.mk (Below.refl w.heap.size w)
 go_enter Try.func163, Try.ntmps163
 go_wp2
 all_goals (refine bodyPost_ret (by simp [results, Try.results163, go_sem, *]; rfl) rfl (RetV.mk ?_ (by repeat (first | exact HB.out | apply below_alloc | refine below_set ?_ (by omega)))); rfl)
set_option maxRecDepth 100000 in
set_option maxHeartbeats 1000000 in
theorem laws_toItemS (v : Value) (l : List It) (w : World) (h : Sl kIt w v l) (hl : l.length < 7036874416000) : Calls Try.prog 122 #[v] w (RetR kIt 118 w l) := by
 obtain ⟨A, c_, rfl, HC, hr⟩ := h
 have hm := Kd.C_max hr
 have HR := Aside0.mk hr
 clear hr
 have HB := Aside0.mk (Below.refl w.heap.size w)
 go_enter Try.func122, Try.ntmps122
 go_wp2_with (refine makeIt (w0 := w) l.length rfl (N := 7) rfl rfl rfl rfl hl HB.out (Nat.le_refl _) ?_; intro v1 w1 ho hb hg_ hn_; have HO := Aside0.mk ho; replace HB := Aside0.mk hb; clear ho hb hg_ hn_)
 go_loopw [4] (fun i wr => ∃ k : Nat, k ≤ l.length ∧ i = .int .i64 k ∧ Aside0 (kIt.R 118 wr w.heap.size okT v1 (l.take k ++ List.replicate (l.length - k) default)) ∧ Aside0 (Below w.heap.size w wr)) (fun i _ => l.length - (intOf i).toNat)
 case atStart => exact ⟨0, Nat.zero_le _, rfl, by simpa using HO, HB⟩
 case round =>
  obtain ⟨k, hk, rfl, HO1, HB⟩ := hrel
  by_cases hlt : k < l.length
  ·obtain ⟨ad, x, e, HX, h0, h1, h2⟩ := rdIt HR.out HB.out hlt
   cases e
   obtain ⟨g, cap, rfl, hg1, hg2⟩ := formR HO1.out (n := l.length) (by simp; omega) (by omega)
   go_wp2_with (first | (go_at_call 163; refine (laws_toItem x _).mono ?_; rintro e w' ⟨rfl, hb⟩; have HO2 := Aside0.mk (Kd.R_below HO1.out hb); replace HB := Aside0.mk (bthen HB.out hb)) | (refine storeEl kIt (w0 := w) (base := w.heap.size) rfl rfl rfl k x (vIt x) rfl rfl rfl (by kernel_rfl) HO2.out hlt (kIt_M.2 rfl) (okp := fun _ => False) (fun _ hq => hq.elim) HB.out ?_; intro w2 ho hb2 hg_; have HO3 := Aside0.mk ho; replace HB := Aside0.mk hb2; clear ho hb2 hg_))
   go_roundw
   case rel => exact ⟨k + 1, by omega, by go_num, ⟨by have := HO3.out; rw [set_next HX.out] at this; exact this⟩, HB⟩
   case measure => simp [intOf]; omega
  ·go_wp2
   go_ret
   exact RetR.mk (by have := HO1.out; rw [List.take_of_length_le (by omega), show l.length - k = 0 by omega] at this; simpa using this) HB.out
set_option maxRecDepth 100000 in
set_option maxHeartbeats 1000000 in
theorem laws_toItemSS (v : Value) (l : List (List It)) (w : World) (h : Sl (Kd.slice 163 kIt) w v l) (hl : l.length < 7036874416000) (hl2 : ∀ x ∈ l, x.length < 7036874416000) : Calls Try.prog 59 #[v] w fun e w' => ∃ u, e = .returned u ∧ Kd.S (Kd.slice 118 kIt) 46 w' w.heap.size okT u l ∧ Below w.heap.size w w' := by
 obtain ⟨A, c_, rfl, HC, hr⟩ := h
 have hm := Kd.C_max hr
 have HR := Aside0.mk hr
 clear hr
 have HB := Aside0.mk (Below.refl w.heap.size w)
 go_enter Try.func59, Try.ntmps59
 go_wp2_with (refine Kd.S_make (Kd.slice 118 kIt) (w0 := w) w.heap.size 46 (N := 7) rfl rfl 63 _ _ rfl (l.length : Int) rfl rfl underItSS (.slice none 0 0) 24 infoItS rfl (by decide) (by omega) [] (ok := okT) (okp := fun _ => False) ⟨_, rfl, Kd.R_nil _ _ _ _ _⟩ (fun _ hk => hk.elim) trivial (by omega) (by simp; omega) HB.out (Nat.le_refl _) ?_; intro v1 w1 ho hb hg_ hn_; have HO := Aside0.mk ho; replace HB := Aside0.mk hb; clear ho hb hg_ hn_)
 go_loopw [4] (fun i wr => ∃ k : Nat, k ≤ l.length ∧ i = .int .i64 k ∧ Aside0 (Kd.S (Kd.slice 118 kIt) 46 wr w.heap.size okT v1 (l.take k ++ List.replicate (l.length - k) [])) ∧ Aside0 (Below w.heap.size w wr)) (fun i _ => l.length - (intOf i).toNat)
 case atStart => exact ⟨0, Nat.zero_le _, rfl, by simpa using HO, HB⟩
 case round =>
  obtain ⟨k, hk, rfl, HO1, HB⟩ := hrel
  by_cases hlt : k < l.length
  ·obtain ⟨ad, x, A1, c1, e, HX, h0, HS⟩ := rdSl HR.out HB.out hlt
   cases e
   obtain ⟨g, cap, rfl, hg1, hg2⟩ := formS HO1.out (n := l.length) (by simp; omega) (by omega)
   have hx := hl2 x (List.mem_of_getElem? HX.out)
   go_wp2_with (first | (go_at_call 122; refine (laws_toItemS _ x _ HS.out hx).mono ?_; rintro e w' ⟨u, rfl, hu, hb⟩; have HO2 := Aside0.mk (Kd.S_old HO1.out hb); have HU := Aside0.mk (Kd.R_lower (Kd.R_mono (Kd.R_bound hu) (fun q hq => hq.2.1)) HB.out.size); obtain ⟨A2, c2, rfl, _, _⟩ := Kd.R_reads hu; replace HB := Aside0.mk (bthen HB.out hb)) | (refine storeElS (Kd.slice 118 kIt) (w0 := w) (base := w.heap.size) rfl rfl rfl k x [.slice A2 x.length c2] rfl (by first | exact (Nat.mul_one _).symm | rfl | simp) rfl (by kernel_rfl) (Kd.S_mono HO2.out (fun q hq => hq.2)) (by simp; omega) hlt ⟨_, rfl, HU.out⟩ HB.out ?_; intro w2 ho hb2 hg_; have HO3 := Aside0.mk ho; replace HB := Aside0.mk hb2; clear ho hb2 hg_))
   go_roundw
   case rel => exact ⟨k + 1, by omega, by go_num, ⟨by have := HO3.out; rw [set_next HX.out] at this; exact this⟩, HB⟩
   case measure => simp [intOf]; omega
  ·go_wp2
   go_ret
   exact ⟨_, rfl, by have := HO1.out; rw [List.take_of_length_le (by omega), show l.length - k = 0 by omega] at this; simpa using this, HB.out⟩
def szB (m n : Nat) (left : Int) : Int := if (m : Int) + (n : Int) ≤ left then left - m - n else -1
set_option maxRecDepth 100000 in
set_option maxHeartbeats 400000 in
theorem laws_szItemS (v : Value) (l : List It) (left : Int) (w : World) (h : Sl kIt w v l) (h0 : 0 ≤ left) (h1 : left ≤ 1048576) : Calls Try.prog 120 #[v, .int .i64 left] w (RetV w (.int .i64 (if (l.length : Int) ≤ left then left - l.length else -1))) := by
 obtain ⟨A, c, rfl, hc, hr⟩ := h
 have hm := Kd.C_max hr
 clear hr
 by_cases hn : (l.length : Int) ≤ left
 ·have hq : (0 : Int) ≤ left - (l.length : Int) := by omega
  rw [if_pos hn]
  have HB := Aside0.mk (Below.refl w.heap.size w)
  go_enter Try.func120, Try.ntmps120
  go_wp2
  go_ret
  exact RetV.mk rfl HB.out
 ·have hq : left - (l.length : Int) < 0 := by omega
  rw [if_neg hn]
  have HB := Aside0.mk (Below.refl w.heap.size w)
  go_enter Try.func120, Try.ntmps120
  go_wp2
  go_ret
  exact RetV.mk rfl HB.out
set_option maxRecDepth 100000 in
set_option maxHeartbeats 1000000 in
theorem laws_szItemSS (v : Value) (ls : List (List It)) (left : Int) (w : World) (h : Sl (Kd.slice 163 kIt) w v ls) (h0 : 0 ≤ left) (h1 : left ≤ 1048576) : Calls Try.prog 57 #[v, .int .i64 left] w (RetV w (.int .i64 (szB ls.length (manyI ls) left))) := by
 obtain ⟨A, c, rfl, hc, hr⟩ := h
 have hm := Kd.C_max hr
 have HR := Aside0.mk hr
 clear hr
 have HB := Aside0.mk (Below.refl w.heap.size w)
 go_enter Try.func57, Try.ntmps57
 by_cases hs : left < (ls.length : Int)
 ·have hneg : left - (ls.length : Int) < 0 := by omega
  go_wp2
  go_ret
  exact RetV.mk (by rw [szB, if_neg (by omega)]; rfl) HB.out
 have hge : (0 : Int) ≤ left - (ls.length : Int) := by omega
 go_wp2
 go_loopw [1, 5] (fun q i wr => ∃ k : Nat, k ≤ ls.length ∧ q = .int .i64 (left - (ls.length : Int) - (manyI (ls.take k) : Int)) ∧ i = .int .i64 k ∧ 0 ≤ left - (ls.length : Int) - (manyI (ls.take k) : Int) ∧ Aside0 (Below w.heap.size w wr)) (fun _ i _ => ls.length - (intOf i).toNat)
 case atStart => exact ⟨0, Nat.zero_le _, by simp [manyI], rfl, by simp [manyI]; omega, HB⟩
 case round =>
  clear HB
  obtain ⟨k, hk, rfl, rfl, hq, HB⟩ := hrel
  by_cases hlt : k < ls.length
  ·obtain ⟨ad, x, A1, c1, e, HX, h0, HS⟩ := rdSl HR.out HB.out hlt
   cases e
   have hx : ls[k] = x := by have := HX.out; rw [List.getElem?_eq_getElem hlt] at this; exact Option.some.inj this
   have HXX := Aside0.mk hx
   have HT := Aside0.mk (show manyI (ls.take (k + 1)) = manyI (ls.take k) + x.length by rw [take_snoc HX.out, manyI_snoc])
   have HM := Aside0.mk (manyI_take ls k hlt)
   clear hx
   generalize hqq : left - (ls.length : Int) - (manyI (ls.take k) : Int) = q at *
   have HQ := Aside0.mk hqq
   clear hqq
   have hq1 : q ≤ 1048576 := by have := HQ.out; omega
   by_cases hn : (x.length : Int) ≤ q
   ·have E := Aside0.mk (show (if (x.length : Int) ≤ q then q - x.length else -1) = q - (x.length : Int) from if_pos hn)
    have hq2 : (0 : Int) ≤ q - (x.length : Int) := by omega
    go_wp2_with (go_at_call 120; ((with_reducible refine (laws_szItemS _ x q _ HS.out hq hq1).mono ?_); rintro e w' ⟨rfl, hb⟩; rw [E.out]; replace HB := Aside0.mk (bthen HB.out hb); clear hb))
    go_roundw
    case rel => exact ⟨k + 1, by omega, by rw [HT.out]; have := HQ.out; exact congrArg (Value.int .i64) (by omega), by go_num, by rw [HT.out]; have := HQ.out; omega, HB⟩
    case measure => simp [intOf]; omega
   ·have E := Aside0.mk (show (if (x.length : Int) ≤ q then q - x.length else -1) = -1 from if_neg hn)
    have HN := Aside0.mk hn
    clear hn
    go_wp2_with (go_at_call 120; ((with_reducible refine (laws_szItemS _ x q _ HS.out hq hq1).mono ?_); rintro e w' ⟨rfl, hb⟩; rw [E.out]; replace HB := Aside0.mk (bthen HB.out hb); clear hb))
    go_ret
    exact RetV.mk (by rw [szB, if_neg (by have h1 := HM.out; rw [HXX.out] at h1; have h2 := HN.out; have h3 := HQ.out; omega)]; rfl) HB.out
  ·have ek : k = ls.length := by omega
   subst ek
   rw [List.take_length] at hq
   have HQ := Aside0.mk hq
   go_wp2
   go_ret
   exact RetV.mk (by rw [szB, if_pos (by have h2 := HQ.out; omega), List.take_length]; rfl) HB.out
set_option maxRecDepth 100000 in
set_option maxHeartbeats 1000000 in
theorem laws_eqItemSS (v v2 : Value) (ls : List (List It)) (w : World) (h : Sl (Kd.slice 118 kIt) w v ls) (h2 : Sl (Kd.slice 118 kIt) w v2 ls) (hl : ∀ x ∈ ls, x.length ≤ 1048576) : Calls Try.prog 62 #[v, v2] w (RetV w (.bool true)) := by
 obtain ⟨A, c, rfl, hc, hr⟩ := h
 have hm := Kd.C_max hr
 have HR := Aside0.mk hr
 obtain ⟨A2, c2, rfl, hc2, hr2⟩ := h2
 have HR2 := Aside0.mk hr2
 have HLL := Aside0.mk hl
 clear hr hr2 hl
 have HB := Aside0.mk (Below.refl w.heap.size w)
 go_enter Try.func62, Try.ntmps62
 go_wp2
 go_loopw [5] (fun i wr => ∃ k : Nat, k ≤ ls.length ∧ i = .int .i64 k ∧ Aside0 (Below w.heap.size w wr)) (fun i _ => ls.length - (intOf i).toNat)
 case atStart => exact ⟨0, Nat.zero_le _, rfl, HB⟩
 case round =>
  clear HB
  obtain ⟨k, hk, rfl, HB⟩ := hrel
  by_cases hlt : k < ls.length
  ·obtain ⟨ad, x, A1, c1, e, HX, h0, HS⟩ := rdSl HR.out HB.out hlt
   cases e
   obtain ⟨ad', y, A3, c3, e, HY, i0, HS2⟩ := rdSl HR2.out HB.out hlt
   cases e
   have ey : y = x := Option.some.inj (HY.out.symm.trans HX.out)
   subst ey
   have hyl := HLL.out y (List.mem_of_getElem? HX.out)
   have HCx := Aside0.mk (fun u : Ext wr => laws_eqItemS _ _ y u.w' (HS.out.below u.bel) (HS2.out.below u.bel) hyl)
   clear hyl
   go_wp2
   have q0 := fun u : Ext wr => Ext.cell h0 u
   have r0 := fun u : Ext wr => Ext.cell i0 u
   refine wp_region_ext (by kernel_rfl) (by kernel_rfl) ?_
   repeat (any_goals (first | go_big_quiet_step ((go_at_call 60; exact Calls.extV (HCx.out _))) | quiet_step ((go_at_call 60; exact Calls.extV (HCx.out _))) | (refine wpQuiet_step (fun K hK => ?_); go_simp; split <;> (refine hK _ ?_; clear hK K))))
   all_goals (refine wpQuiet_nil ?_; intro u)
   have HB2 := Aside0.mk (bthen HB.out u.bel)
   clear q0 r0
   go_wp2
   go_roundw
   case rel => exact ⟨k + 1, by omega, by go_num, HB2⟩
   case measure => simp [intOf]; omega
  ·go_wp2
   go_ret
   exact RetV.mk rfl HB.out
end Go.Proofs.Ytkdendlgaaimbaa.X
