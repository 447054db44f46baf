/- Draws of rows whose keys are changed. Conditions: a reader of at most 2000 bytes, few draws so far. -/
import Derived.Test.YtdppnipodndcpaaXDrRow3
namespace Go.Proofs.Ytdppnipodndcpaa.X
open Go.RowKit Go.Proofs.YtdppnipodndcpaaW.PrintWords
set_option linter.unusedVariables false
set_option linter.unusedSimpArgs false

section
variable {P : Program} {ops : Array Oper} {rest : List Oper} {o : Oper} {a : Act} {Q : Exit → Act → World → Prop}
/-- out[k].f = u, one cell of the element -/
theorem storeR1 {w0 W : World} {base : Nat} (hN : o.dst = none) (hgd : o.guard = none) {t : TypeId} {p x : Operand} (ho : o.op = .store t p x) {e g n cap o' : Nat} (k j : Nat) {xs : List Rw} (x0 x' : Rw) (u : Int) {ok : Nat → Prop}
    (haddr : a.eval p = .pointer (some ⟨g, o', none⟩)) (hoff : o' = k * 5 + j) (hu : a.eval x = .int .i64 u) (ht : (P.info? t).map (·.size) = some 1)
    (HO : kRw.R e W base ok (.slice (some ⟨g, 0, none⟩) n cap) xs) (hx0 : xs[k]? = some x0) (hi : k < n) (hj : j < 5) (hx : vRw x' = (vRw x0).take j ++ [.int .i64 u] ++ (vRw x0).drop (j + 1)) (HB : Below base w0 W)
    (h : ∀ w1, kRw.R e w1 base ok (.slice (some ⟨g, 0, none⟩) n cap) (xs.set k x') → Below base w0 w1 → W.grownBy w1 (some g) → wpList P ops Q rest a w1) : wpList P ops Q (o :: rest) a W := by
  have hl : k < xs.length := (List.getElem?_eq_some_iff.1 hx0).1
  obtain ⟨c, hcl, hM, hcc, _⟩ := Kd.R_elem HO x0 (k : Int) (by omega) (by omega)
  simp only [Int.toNat_natCast] at hcc hM
  have e0 : xs.getD k x0 = x0 := by simp [List.getD, hx0]
  rw [e0] at hM
  have ec := kRw_M.1 hM
  subst ec
  refine Kd.R_store kRw base hN hgd t p x ho e (k : Int) j _ x' _ [.int .i64 u] (vRw x0) ok (fun _ => False) haddr (by rw [Int.toNat_natCast]; exact hoff) rfl (by rw [hu]; rfl) ht (fun q hq => by simp at hq; subst hq; rfl) HO (by omega) (by omega) hcl (by simpa using hcc) (by show j + 1 ≤ 5; omega) ?_ (fun _ hq => hq.elim) HB (by simpa using h)
  exact kRw_M.2 hx.symm
end
/-- drawn rows and a key -/
def RowKP (w : World) (e : Ending) (w' : World) : Prop := ∃ (v : Value) (l : List Rw) (n : Int), e = .returned (.tuple #[v, .int .i64 n]) ∧ Sl kRw w' v l ∧ l.length ≤ 11 ∧ (-1 ≤ n ∧ n ≤ 4) ∧ Below w.heap.size w w'
theorem RowKP.mk {w w' : World} {v : Value} {l : List Rw} {n : Int} (h1 : Sl kRw w' v l) (h3 : l.length ≤ 11) (h0 : -1 ≤ n) (h2 : n ≤ 4) (h5 : Below w.heap.size w w') : RowKP w (.returned (.tuple #[v, .int .i64 n])) w' := ⟨v, l, n, rfl, h1, h3, ⟨h0, h2⟩, h5⟩
set_option maxRecDepth 100000 in
set_option maxHeartbeats 4000000 in
theorem spec_DrawFlowTimes (v : Value) (l : List Int) (w : World) (h : Sl kB w v l) (hb : ∀ x ∈ l, 0 ≤ x ∧ x ≤ 255) : Calls Try.prog 13 #[v] w (RowKP w) := by
  have C1 := spec_l6Open v l w h hb
  go_enter Try.func13, Try.ntmps13
  go_upto_region 3 with (first
    | (go_at_call 65; ((with_reducible refine C1.mono ?_); rintro e wa ⟨rb, s, rfl, hs, hrd, hba⟩; have hS := Aside0.mk hs; have HR := Aside0.mk hrd; have hbl := hrd.lt; clear hs hrd hba))
    | (go_at_call 66; ((with_reducible refine (spec_l71Any (W := wa) hS HR.out (by omega)).mono ?_); rintro e wb ⟨v1, l1, rfl, hr1, hd1, p1, g0, g1, hrb, hgb⟩; have hl1 := hd1.1; have HO := Aside0.mk (R_off hr1 HR.out.lt); replace HR := Aside0.mk hrb; clear hr1 hd1 hrb hgb)))
  clear C1
  obtain ⟨A3, c3, rfl, hc3, hC3⟩ := Sl.of_R HO.out
  have hm3 := Kd.C_max hC3
  clear hC3
  obtain ⟨n0, hn0⟩ : ∃ n0, n0 = l1.length := ⟨_, rfl⟩
  rw [← hn0] at HO hl1 hm3 hc3 ⊢
  have HN0 := Aside0.mk hn0
  clear hn0
  go_upto_block 0 with fail
  go_cut [] (fun wc => ∃ (lx : List Rw) (p2 : Int), 0 ≤ p2 ∧ p2 ≤ 200 ∧ lx.length = n0 ∧ Aside0 (kRw.R 35 wc wa.heap.size (fun q => q ≠ rb) (.slice A3 n0 c3) lx) ∧ Aside0 (Rd w rb s p2 wc))
  case first =>
    go_wp2
    go_loopw [6] (fun i wr => ∃ (k : Nat) (lx : List Rw) (p2 : Int), k ≤ n0 ∧ i = .int .i64 k ∧ 0 ≤ p2 ∧ p2 ≤ 131 + k ∧ lx.length = n0 ∧ Aside0 (kRw.R 35 wr wa.heap.size (fun q => q ≠ rb) (.slice A3 n0 c3) lx) ∧ Aside0 (Rd w rb s p2 wr)) (fun i _ => n0 - (intOf i).toNat)
    case atStart => exact ⟨0, l1, p1, Nat.zero_le _, rfl, by omega, by omega, HN0.out.symm, HO, HR⟩
    case round =>
      clear HO HR
      obtain ⟨k, lx, p2, hk, rfl, hp0, hp1, hlx, HO, HR⟩ := hrel
      by_cases hlt : k < n0
      · go_upto_if 19 with (go_at_call 67; ((with_reducible refine (spec_pick hS.out HR.out (by omega) _ (by omega) (by omega)).mono ?_); rintro e w' ⟨t, rfl, t0, t1, hr, hg⟩; replace HO := Aside0.mk (R_pick HO.out hg (fun q hq => hq)); replace HR := Aside0.mk hr; clear hr hg))
        by_cases ht0 : t = 0
        · have htb : (t == 0) = true := by rw [ht0]; rfl
          clear ht0
          obtain ⟨g, cap, e, hg1, hg2⟩ := formR HO.out (n := n0) hlx (by omega)
          cases e
          obtain ⟨x, hx⟩ : ∃ x, lx[k]? = some x := ⟨_, List.getElem?_eq_getElem (by omega)⟩
          obtain ⟨ad, x', e, HX', h0, h1, h2, h3, h4⟩ := rdRw (xs := lx) ((Kd.R_reads' HO.out).2.2) (Below.refl _ _) (k := k) (by omega)
          cases e
          have ex : x' = x := Option.some.inj (HX'.out.symm.trans hx)
          subst ex
          have h0' : w'.cell? ⟨g, k * 5, none⟩ = some (.int .i64 x'.f0) := by rw [add_plain] at h0; exact h0
          clear h0 h1 h2 h3 h4
          go_wp2_with (refine storeR1 (base := wa.heap.size) rfl rfl rfl k 0 x' ⟨1, x'.f1, x'.f2, x'.f3⟩ 1 (by first | rfl | simp) (by first | rfl | omega) (by first | rfl | (simp [*]; done)) (by kernel_rfl) HO.out hx hlt (by decide) rfl (Below.refl _ _) ?_; intro w1 hr1 hb1 hg1; have HO2 := Aside0.mk hr1; have HR2 := Aside0.mk (HR.out.belowB hb1 hbl); clear hr1 hb1 hg1)
          go_roundw
          case rel => exact ⟨k + 1, _, p2 + 1, by omega, by go_num, by omega, by omega, by rw [List.length_set]; exact hlx, HO2, HR2⟩
          case measure => simp [intOf]; omega
        · have htb : (t == 0) = false := by simp [ht0]
          clear ht0
          go_wp2
          go_meet
          case rel => exact ⟨lx, p2 + 1, by omega, by omega, hlx, HO, HR⟩
      · go_wp2
        go_meet
        case rel => exact ⟨lx, p2, by omega, by omega, hlx, HO, HR⟩
  case rest =>
    clear HO HR
    obtain ⟨lx, p2, hp0, hp1, hlx, HO, HR⟩ := hcut
    go_at_K
    go_wp2_with (go_at_call 67; ((with_reducible refine (spec_pick hS.out HR.out (by omega) _ (by omega) (by omega)).mono ?_); rintro e w' ⟨t, rfl, t0, t1, hr, hg⟩; replace HO := Aside0.mk (R_pick HO.out hg (fun q hq => hq)); replace HR := Aside0.mk hr; clear hr hg))
    go_ret2
    exact RowKP.mk (l := lx) (Sl.of_R HO.out) (by omega) (by omega) (by omega) HR.out.bel
end Go.Proofs.Ytdppnipodndcpaa.X
