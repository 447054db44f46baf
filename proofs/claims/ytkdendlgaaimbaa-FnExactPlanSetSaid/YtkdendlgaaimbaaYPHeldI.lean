/- Conditions: none. -/
import Derived.Test.YtkdendlgaaimbaaYPSpX
namespace Go.Proofs.Ytkdendlgaaimbaa.X
open Go.RowKit Go.Proofs.Ytkdendlgaaimbaa.PSpX Go.Proofs.YtkdendlgaaimbaaW.PrintWords
set_option linter.unusedVariables false
set_option linter.unusedSimpArgs false
def markI (k : Int) : It := ⟨k, k + 1, k + 2⟩
def marksI (k : Int) (n : Nat) : List It := (List.range n).map fun i : Nat => markI (k + 3 * (i : Int))
theorem marksI_len (k : Int) (n : Nat) : (marksI k n).length = n := by simp [marksI]
theorem marksI_succ (k : Int) (n : Nat) : marksI k (n + 1) = marksI k n ++ [markI (k + 3 * (n : Int))] := by simp [marksI, List.range_succ]
section
variable {P : Program} {ops : Array Oper} {rest : List Oper} {o : Oper} {a : Act} {Q : Exit → Act → World → Prop}
theorem storeM {w0 W : World} {base : Nat} (hN : o.dst = none) (hgd : o.guard = none) {t : TypeId} {p x : Operand} (ho : o.op = .store t p x) {e g n cap o' : Nat} (k j : Nat) {xs : List It} (x0 x' : It) (u : Int) {ok : Nat → Prop}
  (haddr : a.eval p = .pointer (some ⟨g, o', none⟩)) (hoff : o' = k * 3 + j) (hu : a.eval x = .int .i64 u) (ht : (P.info? t).map (·.size) = some 1)
  (HO : kIt.R e W base ok (.slice (some ⟨g, 0, none⟩) n cap) (xs.set k x0)) (hi : k < n) (hl : k < xs.length) (hj : j < 3) (hx : vIt x' = (vIt x0).take j ++ [.int .i64 u] ++ (vIt x0).drop (j + 1)) (HB : Below base w0 W)
  (h : ∀ w1, kIt.R e w1 base ok (.slice (some ⟨g, 0, none⟩) n cap) (xs.set k x') → Below base w0 w1 → W.grownBy w1 (some g) → wpList P ops Q rest a w1) : wpList P ops Q (o :: rest) a W := by
 obtain ⟨c, hcl, hM, hcc, _⟩ := Kd.R_elem HO x0 (k : Int) (by omega) (by omega)
 simp only [Int.toNat_natCast] at hcc hM
 have e0 : (xs.set k x0).getD k x0 = x0 := by simp [List.getD, List.getElem?_set, hl]
 rw [e0] at hM
 have ec := kIt_M.1 hM
 subst ec
 refine Kd.R_store kIt base hN hgd t p x ho e (k : Int) j _ x' _ [.int .i64 u] (vIt x0) ok (fun _ => False) haddr (by rw [Int.toNat_natCast]; exact hoff) rfl (by rw [hu]; rfl) ht (fun q hq => by simp at hq; subst hq; rfl) HO (by omega) (by omega) hcl (by simpa using hcc) (by show j + 1 ≤ 3; omega) ?_ (fun _ hq => hq.elim) HB (by simpa using h)
 exact kIt_M.2 hx.symm
end
set_option maxRecDepth 100000 in
set_option maxHeartbeats 1000000 in
theorem laws_markItemS (P0 : Nat → Prop) (v : Value) (l : List It) (k0 : Int) (w0 w : World) (hB : Below w0.heap.size w0 w) (h : kIt.R 118 w w0.heap.size P0 v l) (hk0 : 0 ≤ k0) (hl : k0 + 3 * (l.length : Int) < 4611686018427387904) : Calls Try.prog 65 #[v, .int .i64 k0] w fun e w' => e = .returned (.int .i64 (k0 + 3 * (l.length : Int))) ∧ kIt.R 118 w' w0.heap.size P0 v (marksI k0 l.length) ∧ Below w0.heap.size w0 w' ∧ Kept w w' P0 := by
 have HO := Aside0.mk h
 have HB := Aside0.mk hB
 have HK := Aside0.mk (Kept.refl w P0)
 clear hB h
 obtain ⟨A, c, rfl⟩ := Kd.R_slice HO.out
 go_enter Try.func65, Try.ntmps65
 go_wp2
 go_loopw [1, 5] (fun q i wr => ∃ k : Nat, k ≤ l.length ∧ q = .int .i64 (k0 + 3 * (k : Int)) ∧ i = .int .i64 k ∧ Aside0 (kIt.R 118 wr w0.heap.size P0 (.slice A l.length c) (marksI k0 k ++ l.drop k)) ∧ Aside0 (Below w0.heap.size w0 wr) ∧ Aside0 (Kept w wr P0)) (fun _ i _ => l.length - (intOf i).toNat)
 case atStart => exact ⟨0, Nat.zero_le _, by simp, rfl, by simpa [marksI] using HO, HB, HK⟩
 case round =>
  obtain ⟨k, hk, rfl, rfl, HO1, HB, HK⟩ := hrel
  by_cases hlt : k < l.length
  ·obtain ⟨g, cap, e, hg1, hg2⟩ := formR HO1.out (n := l.length) (by simp [marksI_len]; omega) (by omega)
   cases e
   have hlen : (marksI k0 k ++ l.drop k).length = l.length := by simp [marksI_len]; omega
   have w1 : IntKind.i64.wrap (k0 + 3 * (k : Int) + 1) = k0 + 3 * (k : Int) + 1 := wrapM (by omega) (by omega)
   have w2 : IntKind.i64.wrap (k0 + 3 * (k : Int) + 1 + 1) = k0 + 3 * (k : Int) + 2 := wrapM (by omega) (by omega)
   have w3 : IntKind.i64.wrap (k0 + 3 * (k : Int) + 2 + 1) = k0 + 3 * (k : Int) + 3 := wrapM (by omega) (by omega)
   have hP : P0 g := HO1.out.1 _ rfl
   obtain ⟨x, hx⟩ : ∃ x, x = l[k] := ⟨_, rfl⟩
   have HN := Aside0.mk (show (marksI k0 k ++ l.drop k).set k x = marksI k0 k ++ l.drop k by rw [set_mid _ _ _ _ (marksI_len _ _) hlt, hx, List.append_assoc]; congr 1; exact (List.drop_eq_getElem_cons hlt).symm)
   rw [← HN.out] at HO1
   go_wp2_with (first | (refine storeM (w0 := w0) (base := w0.heap.size) rfl rfl rfl k 0 (x : It) (⟨k0 + 3 * (k : Int), x.f1, x.f2⟩ : It) (k0 + 3 * (k : Int)) (by first | rfl | simp) (by first | rfl | omega) (by first | rfl | (simp [*]; done)) (by kernel_rfl) HO1.out hlt (by omega) (by decide) rfl HB.out ?_; intro wn ho hb2 hg_; have HO2 := Aside0.mk ho; replace HB := Aside0.mk hb2; replace HK := Aside0.mk (Kept.of_grown hg_ HK.out (fun q e_ => .inl (by cases e_; exact hP))); clear ho hb2 hg_) | (refine storeM (w0 := w0) (base := w0.heap.size) rfl rfl rfl k 1 (⟨k0 + 3 * (k : Int), x.f1, x.f2⟩ : It) (⟨k0 + 3 * (k : Int), k0 + 3 * (k : Int) + 1, x.f2⟩ : It) (k0 + 3 * (k : Int) + 1) (by first | rfl | simp) (by first | rfl | omega) (by first | rfl | (simp [*]; done)) (by kernel_rfl) HO2.out hlt (by omega) (by decide) rfl HB.out ?_; intro wn ho hb2 hg_; have HO3 := Aside0.mk ho; replace HB := Aside0.mk hb2; replace HK := Aside0.mk (Kept.of_grown hg_ HK.out (fun q e_ => .inl (by cases e_; exact hP))); clear ho hb2 hg_) | (refine storeM (w0 := w0) (base := w0.heap.size) rfl rfl rfl k 2 (⟨k0 + 3 * (k : Int), k0 + 3 * (k : Int) + 1, x.f2⟩ : It) (⟨k0 + 3 * (k : Int), k0 + 3 * (k : Int) + 1, k0 + 3 * (k : Int) + 2⟩ : It) (k0 + 3 * (k : Int) + 2) (by first | rfl | simp) (by first | rfl | omega) (by first | rfl | (simp [*]; done)) (by kernel_rfl) HO3.out hlt (by omega) (by decide) rfl HB.out ?_; intro wn ho hb2 hg_; have HO4 := Aside0.mk ho; replace HB := Aside0.mk hb2; replace HK := Aside0.mk (Kept.of_grown hg_ HK.out (fun q e_ => .inl (by cases e_; exact hP))); clear ho hb2 hg_))
   refine ⟨⟨k + 1, by omega, ?_, ?_, ⟨?_⟩, HB, HK⟩, ?_⟩
   ·congr 1; omega
   ·rfl
   ·have := HO4.out
    rw [set_mid _ _ _ _ (marksI_len _ _) hlt] at this
    rw [marksI_succ]
    exact this
   ·simp [intOf]; omega
  ·go_wp2
   have hk' : k = l.length := by omega
   subst hk'
   go_ret
   exact ⟨rfl, by have := HO1.out; rw [List.drop_of_length_le (Nat.le_refl _), List.append_nil] at this; exact this, HB.out, HK.out⟩
theorem marksI_eq : ∀ (n : Nat) (k : Int), marksI k n = markIt k n
 | 0, _ => rfl
 | n + 1, k => by
  rw [markIt, ← marksI_eq n (k + 3)]
  unfold marksI
  rw [List.range_succ_eq_map, List.map_cons, List.map_map]
  refine congr (congrArg _ ?_) (List.map_congr_left fun i _ => ?_)
  ·simp [markI]
  ·simp only [Function.comp, markI]
   congr 1 <;> omega
theorem laws_eqItemS (v v2 : Value) (l : List It) (w : World) (h : Sl kIt w v l) (h2 : Sl kIt w v2 l) (hl : l.length ≤ 1048576) : Calls Try.prog 60 #[v, v2] w (RetV w (.bool true)) := by
 obtain ⟨A, c, rfl, hc, hr⟩ := h
 obtain ⟨A2, c2, rfl, hc2, hr2⟩ := h2
 obtain ⟨k, hk⟩ := (eqItemS_e l (by omega)).get
 exact laws_eqItemS.calls k A c l A2 c2 l true w hr hc hr2 hc2 hk
theorem laws_heldItemS (v : Value) (n : Nat) (w : World) (h : Sl kIt w v (marksI 1 n)) (hn : n ≤ 1000000) : Calls Try.prog 66 #[v, .int .i64 1] w (RetV w (.int .i64 (1 + 3 * (n : Int)))) := by
 rw [marksI_eq] at h
 obtain ⟨A, c, rfl, hc, hr⟩ := h
 obtain ⟨k, hk⟩ := (heldItemS_e n (by omega)).get
 refine (laws_heldItemS.calls k A c _ 1 _ w hr hc hk).mono ?_
 rintro e w' ⟨rfl, hd⟩
 exact RetV.mk rfl hd.below
end Go.Proofs.Ytkdendlgaaimbaa.X
