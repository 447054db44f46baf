/- copy(dst, src) of whole rows of plain elements, and the functions that only copy. Conditions: none. -/
import Derived.Test.YtdppnipodndcpaaXBase
import Derived.Laws.CopyRow
import Derived.Laws.CopyOwn
namespace Go.Proofs.Ytdppnipodndcpaa.X
open Go.RowKit Go.Proofs.YtdppnipodndcpaaW.PrintWords
set_option linter.unusedVariables false
set_option linter.unusedSimpArgs false

theorem reps_one {α : Type} {d : Kd α} {w : World} {xs : List α} {cs : List Value} (h : Reps (d.K w) d.sz xs cs) (hs : 0 < d.sz) : ∀ u ∈ cs, u.oneCell' = true := by
  intro u hu
  obtain ⟨j, hj, rfl⟩ := List.getElem_of_mem hu
  have hl := h.1
  have hq : j / d.sz < xs.length := Nat.div_lt_of_lt_mul (by rw [Nat.mul_comm, ← hl]; exact hj)
  have hK := h.2 (j / d.sz) _ (List.getElem?_eq_getElem hq)
  refine d.K_one hK _ ?_
  have hm := Nat.mod_lt j hs
  have he : ((cs.drop (j / d.sz * d.sz)).take d.sz)[j % d.sz]? = some cs[j] := by
    rw [List.getElem?_take_of_lt hm, List.getElem?_drop, Nat.div_add_mod' j d.sz, List.getElem?_eq_getElem hj]
  exact List.mem_of_getElem? he
section
variable {P : Program} {ops : Array Oper} {rest : List Oper} {o : Oper} {a : Act} {Q : Exit → Act → World → Prop} {α : Type}
theorem copyAll (d : Kd α) {w0 W : World} {base : Nat} (hgd : o.guard = none) {x y : Operand} {t e : TypeId} (ho : o.op = .call { callee := .builtin .copy, args := #[x, y], argTypes := #[t, t] })
    (ht : P.underlying t = some (.slice e)) (hsz : (P.info? e).map (·.size) = some d.sz) (hs0 : 0 < d.sz) (hflat : ∀ w w' b ok p cs, d.K w p cs → d.M w' b ok p cs) {xs zs : List α} {v : Value} (hv : a.eval x = v)
    (HO : d.R e W base okT v zs) (hl : zs.length = xs.length) (HS : Sl d W (a.eval y) xs) (HB : Below base w0 W)
    (h : ∀ w1, d.R e w1 base okT v xs → Below base w0 w1 → wpList P ops Q rest (a.put o.dst (goInt xs.length)) w1) : wpList P ops Q (o :: rest) a W := by
  obtain ⟨A, c, hy, hc, hC⟩ := HS
  obtain ⟨hok, inner, hown, hr⟩ := HO
  rcases hown.2 with ⟨rfl, hn⟩ | ⟨g, cap, cur, rfl, hbg, hg, hnc, hcm, hcs, htk⟩
  · obtain rfl : xs = [] := List.eq_nil_of_length_eq_zero (by omega)
    obtain rfl : zs = [] := List.eq_nil_of_length_eq_zero (by omega)
    cases hq : P.info? e with
    | none => simp [hq] at hsz
    | some i =>
      have hi : i.size = d.sz := by simpa [hq] using hsz
      refine wpList_plain hgd fun K hK => ?_
      have hrun : (Builtin.copy_ #[t, t] o.type #[.slice none 0 0, .slice A 0 c]).run P W = .ok (goInt 0) W := by
        cases A <;> simp [Builtin.copy_, run_underlying ht, Builtin.lenOf, Builtin.firstCells, sizeOf, typeInfo, hq, loadCells, loadCellsFrom, Result.andThen]
      unfold Oper.wp
      simp only [List.length_nil] at hy
      simp [execOp, ho, resolve, invoke, builtin, hv, hy, hrun, Result.andThen]
      exact hK _ _ (h W (Kd.R_nil _ _ _ _ _) HB)
  · by_cases h0 : xs.length = 0
    · obtain rfl : xs = [] := List.eq_nil_of_length_eq_zero h0
      obtain rfl : zs = [] := List.eq_nil_of_length_eq_zero (by omega)
      cases hq : P.info? e with
      | none => simp [hq] at hsz
      | some i =>
        have hi : i.size = d.sz := by simpa [hq] using hsz
        refine wpList_plain hgd fun K hK => ?_
        have hrun : (Builtin.copy_ #[t, t] o.type #[.slice (some ⟨g, 0, none⟩) 0 cap, .slice A 0 c]).run P W = .ok (goInt 0) W := by
          cases A <;> simp [Builtin.copy_, run_underlying ht, Builtin.lenOf, Builtin.firstCells, sizeOf, typeInfo, hq, loadCells, loadCellsFrom, storeCells, Result.andThen]
        unfold Oper.wp
        simp only [List.length_nil] at hy hv
        simp [execOp, ho, resolve, invoke, builtin, hv, hy, hrun, Result.andThen]
        exact hK _ _ (h W ⟨hok, inner, hown, hr⟩ HB)
    · obtain ⟨ad, rfl, hcell⟩ := hC.2.2 (by omega)
      obtain ⟨cs, hreps, hcc⟩ := ReadsRow.inner_ hC
      have hcl := hreps.1
      have h1 := reps_one hreps hs0
      have hle : zs.length * d.sz ≤ cap * d.sz := Nat.mul_le_mul_right _ hnc
      have hfit : 0 + 0 + cs.length ≤ cur.size := by rw [hcl, hcs, ← hl]; omega
      have hst := run_storeCells_at P g 0 e cs 0 cur W hg hfit h1
      have hld := run_loadCells_list (P := P) W ad cs hcc
      cases hq : P.info? e with
      | none => simp [hq] at hsz
      | some i =>
        have hi : i.size = d.sz := by simpa [hq] using hsz
        refine wpList_plain hgd fun K hK => ?_
        have hrun : (Builtin.copy_ #[t, t] o.type #[.slice (some ⟨g, 0, none⟩) zs.length cap, .slice (some ad) xs.length c]).run P W = .ok (goInt xs.length) (W.setRow g (cur.toList.take 0 ++ cs ++ cur.toList.drop (0 + cs.length)).toArray) := by
          rw [hcl] at hld
          simp only [Nat.zero_add, Nat.add_zero] at hst ⊢
          simp [Builtin.copy_, run_underlying ht, Builtin.lenOf, Builtin.firstCells, sizeOf, typeInfo, hq, hi, hl, hld]
          have hst' := hst
          simp at hst'
          simp [hst', Result.andThen]
        unfold Oper.wp
        simp [execOp, ho, resolve, invoke, builtin, hv, hy, hrun, Result.andThen]
        refine hK _ _ (h _ ⟨hok, cs, ⟨by rw [hcl], .inr ⟨g, cap, _, by rw [hl], hbg, setRow_heap W g cur _ e _ hg, by omega, hcm, ?_, ?_⟩⟩, ?_⟩ (Go.below_setRow HB hbg _))
        · simp; rw [hcl] at *; omega
        · simp [hcl]
        · exact ⟨hcl, fun j p hj => hflat _ _ _ _ _ _ (hreps.2 j p hj)⟩
end
set_option maxRecDepth 100000 in
set_option maxHeartbeats 400000 in
theorem impl_timesCopy (v : Value) (l : List Tm) (w : World) (h : Sl kTm w v l) (hl : l.length < 7036874416000) : Calls Try.prog 90 #[v] w (RetR kTm 32 w l) := by
  have HS := Aside0.mk h
  obtain ⟨A, c_, rfl, HC, hr⟩ := h
  have hm := Kd.C_max hr
  have HR := Aside0.mk hr
  clear hr
  have HB := Aside0.mk (Below.refl w.heap.size w)
  go_enter Try.func90, Try.ntmps90
  go_wp2_with (first | (refine makeTm (w0 := w) l.length rfl (N := 6) rfl rfl rfl rfl hl HB.out (Nat.le_refl _) ?_; intro v1 w1 ho hb hg_ hn_; have HO := Aside0.mk ho; replace HB := Aside0.mk hb; clear ho hb hg_ hn_) | (refine copyAll kTm (w0 := w) (base := w.heap.size) rfl rfl Try.underlying26 (by kernel_rfl) (by decide) (fun _ _ _ _ _ _ hk => kTm_M.2 (kTm_K.1 hk)) (xs := l) rfl HO.out (by simp) (HS.out.below HB.out) HB.out ?_; intro w2 ho hb; have HO2 := Aside0.mk ho; replace HB := Aside0.mk hb; clear ho hb))
  go_ret
  exact RetR.mk HO2.out HB.out
set_option maxRecDepth 100000 in
set_option maxHeartbeats 400000 in
theorem impl_rowsCopy (v : Value) (l : List Rw) (w : World) (h : Sl kRw w v l) (hl : l.length < 7036874416000) : Calls Try.prog 128 #[v] w (RetR kRw 35 w l) := by
  have HS := Aside0.mk h
  obtain ⟨A, c_, rfl, HC, hr⟩ := h
  have hm := Kd.C_max hr
  have HR := Aside0.mk hr
  clear hr
  have HB := Aside0.mk (Below.refl w.heap.size w)
  go_enter Try.func128, Try.ntmps128
  go_wp2_with (first | (refine makeRw (w0 := w) l.length rfl (N := 6) rfl rfl rfl rfl hl HB.out (Nat.le_refl _) ?_; intro v1 w1 ho hb hg_ hn_; have HO := Aside0.mk ho; replace HB := Aside0.mk hb; clear ho hb hg_ hn_) | (refine copyAll kRw (w0 := w) (base := w.heap.size) rfl rfl Try.underlying23 (by kernel_rfl) (by decide) (fun _ _ _ _ _ _ hk => kRw_M.2 (kRw_K.1 hk)) (xs := l) rfl HO.out (by simp) (HS.out.below HB.out) HB.out ?_; intro w2 ho hb; have HO2 := Aside0.mk ho; replace HB := Aside0.mk hb; clear ho hb))
  go_ret
  exact RetR.mk HO2.out HB.out
end Go.Proofs.Ytdppnipodndcpaa.X
