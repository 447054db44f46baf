/- The draws of collections. Conditions: a reader of at most 2000 bytes, few draws so far. -/
import Derived.Test.YtdppnipodndcpaaXDrawRows
import Derived.Test.YtdppnipodndcpaaXSt3
namespace Go.Proofs.Ytdppnipodndcpaa.X
open Go.RowKit Go.Proofs.YtdppnipodndcpaaW.PrintWords
set_option linter.unusedVariables false
set_option linter.unusedSimpArgs false

theorem R_off {α : Type} {d : Kd α} {e : Nat} {w : World} {base rb : Nat} {ok : Nat → Prop} {v : Value} {xs : List α} (h : d.R e w base ok v xs) (hb : rb < base) : d.R e w base (fun q => q ≠ rb) v xs := Kd.R_mono (Kd.R_bound h) (fun q hq => by have := hq.2.1; omega)
theorem Adv.go {w0 W W' : World} {rb : Nat} {s : List Int} {p d : Int} (h : Adv w0 rb s p d W W') {V : World} (hV : V.grownBy W (some rb)) : V.grownBy W' (some rb) := by
  obtain ⟨_, _, _, _, hg⟩ := h
  exact gthen hV hg
theorem Adv.mk' {w0 W W' : World} {rb : Nat} {s : List Int} {p d p' : Int} (h0 : p ≤ p') (h1 : p' ≤ p + d) (hR : Rd w0 rb s p' W') (hg : W.grownBy W' (some rb)) : Adv w0 rb s p d W W' := ⟨p', h0, h1, hR, hg⟩
/-- a reader has been opened -/
def OpenP (w : World) (e : Ending) (w' : World) : Prop := ∃ rb s, e = .returned (.pointer (some ⟨rb, 0, none⟩)) ∧ RS s ∧ Rd w rb s 0 w' ∧ Below w.heap.size w w'
theorem OpenP.mk {w w' : World} {v : Value} {rb : Nat} {s : List Int} (hv : v = .pointer (some ⟨rb, 0, none⟩)) (h1 : RS s) (h2 : Rd w rb s 0 w') (h3 : Below w.heap.size w w') : OpenP w (.returned v) w' := ⟨rb, s, by rw [hv], h1, h2, h3⟩
set_option maxRecDepth 100000 in
set_option maxHeartbeats 1000000 in
theorem spec_l6Open (v : Value) (l : List Int) (w : World) (h : Sl kB w v l) (hb : ∀ x ∈ l, 0 ≤ x ∧ x ≤ 255) : Calls Try.prog 65 #[v] w (OpenP w) := by
  obtain ⟨A, c, rfl, hc, hr⟩ := h
  have hm := Kd.C_max hr
  have HR := Aside0.mk hr
  clear hr
  by_cases hl : 2000 < l.length
  · have hl' : (2000 : Int) < (l.length : Int) := by omega
    have hc' : (2000 : Int) ≤ (c : Int) := by omega
    have hlen : (l.take 2000).length = 2000 := by rw [List.length_take]; omega
    go_enter Try.func65, Try.ntmps65
    go_wp2
    go_ret
    refine OpenP.mk (rb := w.heap.size) (s := l.take 2000) rfl ⟨by omega, fun x hx => hb x (List.mem_of_mem_take hx)⟩ ⟨⟨A, c, ?_, Kd.C_take HR.out (by omega)⟩, below_alloc (Below.refl _ _) _, Nat.le_refl _, Int.le_refl _⟩ (below_alloc (Below.refl _ _) _)
    rw [hlen]; exact blk_new w _
  · have hl' : ¬ (2000 : Int) < (l.length : Int) := by omega
    go_enter Try.func65, Try.ntmps65
    go_wp2
    go_ret
    exact OpenP.mk (rb := w.heap.size) (s := l) rfl ⟨by omega, hb⟩ ⟨⟨A, c, blk_new w _, HR.out⟩, below_alloc (Below.refl _ _) _, Nat.le_refl _, Int.le_refl _⟩ (below_alloc (Below.refl _ _) _)
section
variable {P : Program} {ops : Array Oper} {rest : List Oper} {o : Oper} {a : Act} {Q : Exit → Act → World → Prop}
/-- out[k].f = u, one cell of the element -/
theorem storeI {w0 W : World} {base : Nat} (hN : o.dst = none) (hgd : o.guard = none) {t : TypeId} {p x : Operand} (ho : o.op = .store t p x) {e g n cap o' : Nat} (k j : Nat) {xs : List It} (x0 x' : It) (u : Int) {ok : Nat → Prop}
    (haddr : a.eval p = .pointer (some ⟨g, o', none⟩)) (hoff : o' = k * 3 + j) (hu : a.eval x = .int .i64 u) (ht : (P.info? t).map (·.size) = some 1)
    (HO : kIt.R e W base ok (.slice (some ⟨g, 0, none⟩) n cap) xs) (hx0 : xs[k]? = some x0) (hi : k < n) (hj : j < 3) (hx : vIt x' = (vIt x0).take j ++ [.int .i64 u] ++ (vIt x0).drop (j + 1)) (HB : Below base w0 W)
    (h : ∀ w1, kIt.R e w1 base ok (.slice (some ⟨g, 0, none⟩) n cap) (xs.set k x') → Below base w0 w1 → W.grownBy w1 (some g) → wpList P ops Q rest a w1) : wpList P ops Q (o :: rest) a W := by
  have hl : k < xs.length := (List.getElem?_eq_some_iff.1 hx0).1
  obtain ⟨c, hcl, hM, hcc, _⟩ := Kd.R_elem HO x0 (k : Int) (by omega) (by omega)
  simp only [Int.toNat_natCast] at hcc hM
  have e0 : xs.getD k x0 = x0 := by simp [List.getD, hx0]
  rw [e0] at hM
  have ec := kIt_M.1 hM
  subst ec
  refine Kd.R_store kIt base hN hgd t p x ho e (k : Int) j _ x' _ [.int .i64 u] (vIt x0) ok (fun _ => False) haddr (by rw [Int.toNat_natCast]; exact hoff) rfl (by rw [hu]; rfl) ht (fun q hq => by simp at hq; subst hq; rfl) HO (by omega) (by omega) hcl (by simpa using hcc) (by show j + 1 ≤ 3; omega) ?_ (fun _ hq => hq.elim) HB (by simpa using h)
  exact kIt_M.2 hx.symm
end
/-- a drawn collection, or what was spoilt of one -/
def SetD (l : List It) : Prop := massI l ≤ 30 ∧ l.length ≤ 9
def SetP (w0 : World) (rb : Nat) (s : List Int) (p : Int) (W : World) (e : Ending) (W' : World) : Prop := ∃ (v : Value) (l : List It), e = .returned v ∧ kIt.R 90 W' W.heap.size okT v l ∧ SetD l ∧ Adv w0 rb s p 100 W W'
theorem SetP.mk {w0 : World} {rb : Nat} {s : List Int} {p : Int} {W W' : World} {v : Value} {l : List It} (h : kIt.R 90 W' W.heap.size okT v l) (hd : SetD l) (ha : Adv w0 rb s p 100 W W') : SetP w0 rb s p W (.returned v) W' := ⟨v, l, rfl, h, hd, ha⟩
theorem small_massI {l : List Rw} (h : ∀ r ∈ l, small r) (t : Tm) (hl : l.length ≤ 8) : massI (batchAt l t) ≤ 24 ∧ (batchAt l t).length ≤ 8 := by
  have hm : mass l ≤ 3 * l.length := mass_le (c := 3) fun r hr => by have := h r hr; unfold small at this; omega
  unfold batchAt
  split
  · have h1 : massI (presentOf l t) ≤ mass l := by
      unfold presentOf
      rw [mass_itemOf]; unfold mass
      rw [sg_filter]
      exact sg_le fun r _ => by split <;> omega
    have h2 := presentOf_len l t
    have h3 := items_length (presentOf l t)
    have h4 := items_mass (l := presentOf l t) (by omega)
    unfold present
    exact ⟨by omega, by omega⟩
  · simp [massI, sg]
theorem massI_set : ∀ {xs : List It} {m : Nat} {x y : It}, xs[m]? = some x → massI (xs.set m y) + (x.f2.natAbs : Int) = massI xs + (y.f2.natAbs : Int)
  | z :: xs, 0, x, y, h => by
    have : z = x := by simpa using h
    subst this
    simp only [List.set_cons_zero, massI, sg]; omega
  | z :: xs, m + 1, x, y, h => by
    have := massI_set (xs := xs) (m := m) (x := x) (y := y) (by simpa using h)
    simp only [List.set_cons_succ, massI, sg] at this ⊢; omega
set_option maxRecDepth 100000 in
set_option maxHeartbeats 4000000 in
theorem spec_l71Set {w0 W : World} {rb : Nat} {s : List Int} {p : Int} (hS : Aside0 (RS s)) (h : Rd w0 rb s p W) (hp : p ≤ 500000) : Calls Try.prog 138 #[.pointer (some ⟨rb, 0, none⟩)] W (SetP w0 rb s p W) := by
  have hbl := h.lt
  have hge := h.ge
  have hbs := h.bel.size
  have hnn := h.nn
  have HR := Aside0.mk h
  have HV := Aside0.mk (show W.grownBy W (some rb) from ⟨rfl, rfl, rfl, Nat.le_refl _, fun _ _ _ => rfl⟩)
  have C1 := spec_l71Rows hS h (by omega) 8 (by omega)
  rw [show ((8 : Nat) : Int) = 8 from rfl] at C1
  clear h
  go_enter Try.func138, Try.ntmps138
  go_upto_region 2 with (first
    | (go_at_call 122; ((with_reducible refine C1.mono ?_); rintro e wa ⟨va, la, rfl, hra, hsm, hla, hadv⟩; have HLA := Aside0.mk hsm; have HRA := Aside0.mk hra; obtain ⟨p1, g0, g1, hr1, hg1⟩ := hadv; replace HR := Aside0.mk hr1; replace HV := Aside0.mk hg1; clear hr1 hg1 hra hsm))
    | (go_at_call 55; ((with_reducible refine (spec_BatchAt va la ⟨7, 7⟩ wa (Sl.of_R HRA.out)).mono ?_); rintro e wb ⟨vb, rfl, hrb, hbb⟩; have hsa := HV.out.size; have HO := Aside0.mk (R_off (Kd.R_lower hrb hsa) hbl); replace HR := Aside0.mk (HR.out.below hbb); replace HV := Aside0.mk (grownBy_after HV.out hbb); clear hrb hbb)))
  obtain ⟨hm24, hl8⟩ := small_massI HLA.out ⟨7, 7⟩ hla
  generalize batchAt la ⟨7, 7⟩ = xs at *
  clear HLA HRA C1 hsa
  go_upto_region 3 with (go_at_call 67; ((with_reducible refine (spec_pick hS.out HR.out (by omega) _ (by omega) (by omega)).mono ?_); rintro e w' ⟨t, rfl, t0, t1, hr, hg⟩; replace HO := Aside0.mk (R_pick HO.out hg (fun q hq => by first | exact hq | exact hq.1 | exact hq.2)); replace HV := Aside0.mk (gthen HV.out hg); replace HR := Aside0.mk hr; clear hr hg))
  by_cases ht0 : t = 0
  · have htb : (t == 0) = true := by rw [ht0]; rfl
    have HT := Aside0.mk ht0
    clear ht0
    go_wp2_with (first
      | (go_at_call 67; ((with_reducible refine (spec_pick hS.out HR.out (by omega) 6 (by omega) (by omega)).mono ?_); rintro e w' ⟨a, rfl, a0, a1, hr, hg⟩; replace HO := Aside0.mk (R_pick HO.out hg (fun q hq => by first | exact hq | exact hq.1 | exact hq.2)); replace HV := Aside0.mk (gthen HV.out hg); replace HR := Aside0.mk hr; clear hr hg))
      | (go_at_call 67; ((with_reducible refine (spec_pick hS.out HR.out (by omega) 120 (by omega) (by omega)).mono ?_); rintro e w' ⟨b, rfl, b0, b1, hr, hg⟩; replace HO := Aside0.mk (R_pick HO.out hg (fun q hq => by first | exact hq | exact hq.1 | exact hq.2)); replace HV := Aside0.mk (gthen HV.out hg); replace HR := Aside0.mk hr; clear hr hg))
      | (go_at_call 67; ((with_reducible refine (spec_pick hS.out HR.out (by omega) 3 (by omega) (by omega)).mono ?_); rintro e w' ⟨c, rfl, c0, c1, hr, hg⟩; replace HO := Aside0.mk (R_pick HO.out hg (fun q hq => by first | exact hq | exact hq.1 | exact hq.2)); replace HV := Aside0.mk (gthen HV.out hg); replace HR := Aside0.mk hr; clear hr hg))
      | (at_builtin; refine appIt (base := W.heap.size) (xs := xs) (ok := fun q => q ≠ rb) rfl rfl rfl HO.out (fun q hq => by have := HV.out.size; omega) (Below.refl _ _) HV.out.size (by omega) ?_; intro v1 w1 hr1 hb1 hg1 ha1; have HO2 := Aside0.mk hr1; replace HV := Aside0.mk (gthenB HV.out hb1); replace HR := Aside0.mk (HR.out.belowB hb1 hbl); clear hr1 hb1 hg1 ha1))
    go_ret
    refine SetP.mk (Kd.R_mono HO2.out (fun _ _ => trivial)) ⟨?_, by rw [List.length_append, List.length_singleton]; omega⟩ (Adv.mk' (by omega) (by omega) HR.out HV.out)
    rw [massI_append]
    have : massI [(⟨a - 1, b - 5, c - 1⟩ : It)] = ((c - 1).natAbs : Int) := by simp [massI, sg]
    omega
  · have htb : (t == 0) = false := by simp [ht0]
    by_cases ht1 : t = 1
    · have htc : (t == 1) = true := by rw [ht1]; rfl
      have HT := Aside0.mk ht1
      clear ht1 ht0
      by_cases hz : xs.length = 0
      · obtain rfl : xs = [] := List.eq_nil_of_length_eq_zero hz
        obtain ⟨A3, c3, e3, _, _⟩ := Sl.of_R HO.out
        cases e3
        go_wp2
        go_ret
        exact SetP.mk (Kd.R_mono HO.out (fun _ _ => trivial)) ⟨by omega, by omega⟩ (Adv.mk' (by omega) (by omega) HR.out HV.out)
      · have hpos : (0 : Int) < (xs.length : Int) := by omega
        obtain ⟨g, cap, rfl, hgl, hgh⟩ := formR HO.out rfl (by omega)
        go_wp2_with (first
          | (go_at_call 67; ((with_reducible refine (spec_pick hS.out HR.out (by omega) (xs.length : Int) (by omega) (by omega)).mono ?_); rintro e w' ⟨j, rfl, j0, j1, hr, hg⟩; replace HO := Aside0.mk (R_pick HO.out hg (fun q hq => by first | exact hq | exact hq.1 | exact hq.2)); replace HV := Aside0.mk (gthen HV.out hg); replace HR := Aside0.mk hr; clear hr hg; obtain ⟨m, rfl⟩ := Int.eq_ofNat_of_zero_le j0; have hm : m < xs.length := (by omega); obtain ⟨x, hx⟩ : ∃ x, xs[m]? = some x := ⟨_, List.getElem?_eq_getElem hm⟩))
          | (refine storeI (base := W.heap.size) rfl rfl rfl m 2 x ⟨x.f0, x.f1, 0⟩ 0 (by first | rfl | simp) (by first | rfl | omega) (by first | rfl | (simp [*]; done)) (by kernel_rfl) HO.out hx hm (by decide) rfl (Below.refl _ _) ?_; intro w1 hr1 hb1 hg1; have HO2 := Aside0.mk hr1; replace HV := Aside0.mk (gthenB HV.out hb1); replace HR := Aside0.mk (HR.out.belowB hb1 hbl); clear hr1 hb1 hg1))
        go_ret
        refine SetP.mk (Kd.R_mono HO2.out (fun _ _ => trivial)) ⟨?_, by rw [List.length_set]; omega⟩ (Adv.mk' (by omega) (by omega) HR.out HV.out)
        have := massI_set (y := ⟨x.f0, x.f1, 0⟩) hx
        have e0 : ((⟨x.f0, x.f1, 0⟩ : It).f2.natAbs : Int) = 0 := rfl
        omega
    · have htc : (t == 1) = false := by simp [ht1]
      go_wp2
      go_ret
      exact SetP.mk (Kd.R_mono HO.out (fun _ _ => trivial)) ⟨by omega, by omega⟩ (Adv.mk' (by omega) (by omega) HR.out HV.out)
/-- two drawn collections -/
def Set2P (w : World) (e : Ending) (w' : World) : Prop := ∃ (v v2 : Value) (l m : List It), e = .returned (.tuple #[v, v2]) ∧ Sl kIt w' v l ∧ Sl kIt w' v2 m ∧ SetD l ∧ SetD m ∧ Below w.heap.size w w'
theorem Set2P.mk {w w' : World} {v v2 : Value} {l m : List It} (h1 : Sl kIt w' v l) (h2 : Sl kIt w' v2 m) (h3 : SetD l) (h4 : SetD m) (h5 : Below w.heap.size w w') : Set2P w (.returned (.tuple #[v, v2])) w' := ⟨v, v2, l, m, rfl, h1, h2, h3, h4, h5⟩
set_option maxRecDepth 100000 in
set_option maxHeartbeats 2000000 in
theorem spec_DrawSetBoth (v : Value) (l : List Int) (w : World) (h : Sl kB w v l) (hb : ∀ x ∈ l, 0 ≤ x ∧ x ≤ 255) : Calls Try.prog 117 #[v] w (Set2P w) := by
  have C1 := spec_l6Open v l w h hb
  go_enter Try.func117, Try.ntmps117
  go_wp2_with (first
    | (go_at_call 65; ((with_reducible refine C1.mono ?_); rintro e wa ⟨rb, s, rfl, hs, hrd, hba⟩; have HS := Aside0.mk hs; have HR := Aside0.mk hrd; clear hs hrd hba))
    | (go_at_call 138; ((with_reducible refine (spec_l71Set (W := wa) HS HR.out (by omega)).mono ?_); rintro e wb ⟨v1, l1, rfl, hr1, hd1, p1, g0, g1, hrb, hgb⟩; have HD1 := Aside0.mk hd1; have HO1 := Aside0.mk (R_off hr1 HR.out.lt); have HR1 := Aside0.mk hrb; have hbl := HR1.out.lt; clear hr1 hd1 hrb hgb))
    | (go_at_call 138; ((with_reducible refine (spec_l71Set (W := wb) HS HR1.out (by omega)).mono ?_); rintro e wc ⟨v2, l2, rfl, hr2, hd2, p2, g2, g3, hrc, hgc⟩; have HD2 := Aside0.mk hd2; have HO2 := Aside0.mk (Sl.of_R hr2); have HO3 := Aside0.mk (Sl.of_R (R_pick HO1.out hgc (fun q hq => hq))); have HB := Aside0.mk hrc.bel; clear hr2 hd2 hrc hgc)))
  go_ret2
  exact Set2P.mk HO3.out HO2.out HD1.out HD2.out HB.out
set_option maxRecDepth 100000 in
set_option maxHeartbeats 2000000 in
theorem spec_DrawSetJoin (v : Value) (l : List Int) (w : World) (h : Sl kB w v l) (hb : ∀ x ∈ l, 0 ≤ x ∧ x ≤ 255) : Calls Try.prog 59 #[v] w (Set2P w) := by
  have C1 := spec_DrawSetBoth v l w h hb
  go_enter Try.func59, Try.ntmps59
  go_wp2_with (go_at_call 117; ((with_reducible refine C1.mono ?_); rintro e wa ⟨v1, v2, l1, l2, rfl, h1, h2, h3, h4, h5⟩; have H1 := Aside0.mk h1; have H2 := Aside0.mk h2; have H3 := Aside0.mk h3; have H4 := Aside0.mk h4; have H5 := Aside0.mk h5; clear h1 h2 h3 h4 h5))
  go_ret2
  exact Set2P.mk H1.out H2.out H3.out H4.out H5.out
end Go.Proofs.Ytdppnipodndcpaa.X
