/- The draws of collections. Conditions: a reader of at most 2000 bytes, few draws so far. -/
import Derived.Test.YtlmglffdmoklcaaXDrawRows
import Derived.Test.YtlmglffdmoklcaaXSt3
namespace Go.Proofs.Ytlmglffdmoklcaa.X
open Go.RowKit Go.Proofs.YtlmglffdmoklcaaW.PrintWords
set_option linter.unusedVariables false
set_option linter.unusedSimpArgs false

theorem R_off {α : Type} {d : Kd α} {e : Nat} {w : World} {base rb : Nat} {ok : Nat → Prop} {v : Value} {xs : List α} (h : d.R e w base ok v xs) (hb : rb < base) : d.R e w base (fun q => q ≠ rb) v xs := Kd.R_mono (Kd.R_bound h) (fun q hq => by have := hq.2.1; omega)
theorem Adv.go {w0 W W' : World} {rb : Nat} {s : List Int} {p d : Int} (h : Adv w0 rb s p d W W') {V : World} (hV : V.grownBy W (some rb)) : V.grownBy W' (some rb) := by
  obtain ⟨_, _, _, _, hg⟩ := h
  exact gthen hV hg
theorem Adv.mk' {w0 W W' : World} {rb : Nat} {s : List Int} {p d p' : Int} (h0 : p ≤ p') (h1 : p' ≤ p + d) (hR : Rd w0 rb s p' W') (hg : W.grownBy W' (some rb)) : Adv w0 rb s p d W W' := ⟨p', h0, h1, hR, hg⟩
/-- a reader has been opened -/
def OpenP (w : World) (e : Ending) (w' : World) : Prop := ∃ rb s, e = .returned (.pointer (some ⟨rb, 0, none⟩)) ∧ RS s ∧ Rd w rb s 0 w' ∧ Below w.heap.size w w'
theorem OpenP.mk {w w' : World} {v : Value} {rb : Nat} {s : List Int} (hv : v = .pointer (some ⟨rb, 0, none⟩)) (h1 : RS s) (h2 : Rd w rb s 0 w') (h3 : Below w.heap.size w w') : OpenP w (.returned v) w' := ⟨rb, s, by rw [hv], h1, h2, h3⟩
set_option maxRecDepth 100000 in
set_option maxHeartbeats 1000000 in
theorem spec_l6Open (v : Value) (l : List Int) (w : World) (h : Sl kB w v l) (hb : ∀ x ∈ l, 0 ≤ x ∧ x ≤ 255) : Calls Try.prog 69 #[v] w (OpenP w) := by
  obtain ⟨A, c, rfl, hc, hr⟩ := h
  have hm := Kd.C_max hr
  have HR := Aside0.mk hr
  clear hr
  by_cases hl : 2000 < l.length
  · have hl' : (2000 : Int) < (l.length : Int) := by omega
    have hc' : (2000 : Int) ≤ (c : Int) := by omega
    have hlen : (l.take 2000).length = 2000 := by rw [List.length_take]; omega
    go_enter Try.func69, Try.ntmps69
    go_wp2
    go_ret
    refine OpenP.mk (rb := w.heap.size) (s := l.take 2000) rfl ⟨by omega, fun x hx => hb x (List.mem_of_mem_take hx)⟩ ⟨⟨A, c, ?_, Kd.C_take HR.out (by omega)⟩, below_alloc (Below.refl _ _) _, Nat.le_refl _, Int.le_refl _⟩ (below_alloc (Below.refl _ _) _)
    rw [hlen]; exact blk_new w _
  · have hl' : ¬ (2000 : Int) < (l.length : Int) := by omega
    go_enter Try.func69, Try.ntmps69
    go_wp2
    go_ret
    exact OpenP.mk (rb := w.heap.size) (s := l) rfl ⟨by omega, hb⟩ ⟨⟨A, c, blk_new w _, HR.out⟩, below_alloc (Below.refl _ _) _, Nat.le_refl _, Int.le_refl _⟩ (below_alloc (Below.refl _ _) _)
section
variable {P : Program} {ops : Array Oper} {rest : List Oper} {o : Oper} {a : Act} {Q : Exit → Act → World → Prop}
/-- out[k].f = u, one cell of the element -/
theorem storeI {w0 W : World} {base : Nat} (hN : o.dst = none) (hgd : o.guard = none) {t : TypeId} {p x : Operand} (ho : o.op = .store t p x) {e g n cap o' : Nat} (k j : Nat) {xs : List It} (x0 x' : It) (u : Int) {ok : Nat → Prop}
    (haddr : a.eval p = .pointer (some ⟨g, o', none⟩)) (hoff : o' = k * 3 + j) (hu : a.eval x = .int .i64 u) (ht : (P.info? t).map (·.size) = some 1)
    (HO : kIt.R e W base ok (.slice (some ⟨g, 0, none⟩) n cap) xs) (hx0 : xs[k]? = some x0) (hi : k < n) (hj : j < 3) (hx : vIt x' = (vIt x0).take j ++ [.int .i64 u] ++ (vIt x0).drop (j + 1)) (HB : Below base w0 W)
    (h : ∀ w1, kIt.R e w1 base ok (.slice (some ⟨g, 0, none⟩) n cap) (xs.set k x') → Below base w0 w1 → W.grownBy w1 (some g) → wpList P ops Q rest a w1) : wpList P ops Q (o :: rest) a W := by
  have hl : k < xs.length := (List.getElem?_eq_some_iff.1 hx0).1
  obtain ⟨c, hcl, hM, hcc, _⟩ := Kd.R_elem HO x0 (k : Int) (by omega) (by omega)
  simp only [Int.toNat_natCast] at hcc hM
  have e0 : xs.getD k x0 = x0 := by simp [List.getD, hx0]
  rw [e0] at hM
  have ec := kIt_M.1 hM
  subst ec
  refine Kd.R_store kIt base hN hgd t p x ho e (k : Int) j _ x' _ [.int .i64 u] (vIt x0) ok (fun _ => False) haddr (by rw [Int.toNat_natCast]; exact hoff) rfl (by rw [hu]; rfl) ht (fun q hq => by simp at hq; subst hq; rfl) HO (by omega) (by omega) hcl (by simpa using hcc) (by show j + 1 ≤ 3; omega) ?_ (fun _ hq => hq.elim) HB (by simpa using h)
  exact kIt_M.2 hx.symm
end
end Go.Proofs.Ytlmglffdmoklcaa.X
