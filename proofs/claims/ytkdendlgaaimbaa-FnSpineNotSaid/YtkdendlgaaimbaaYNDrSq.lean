/- Conditions: none. -/
import Derived.Test.YtkdendlgaaimbaaYNDrSp
import Derived.Test.YtkdendlgaaimbaaYNSpI
import Derived.Test.YtkdendlgaaimbaaYNSpJ
import Derived.Test.YtkdendlgaaimbaaYNSb
import Derived.Test.YtkdendlgaaimbaaYNPlH
import Derived.RegionTactic
import Derived.BigRegion
namespace Go.Proofs.Ytkdendlgaaimbaa.X
open Go.RowKit Go.Proofs.YtkdendlgaaimbaaW.PrintWords Go.Proofs.YtkdendlgaaimbaaW.PrintLast
open List (setIfInBounds_toArray set_cons_zero set_cons_succ)
set_option linter.unusedVariables false
set_option linter.unusedSimpArgs false
structure SpD (n : Int) (ls : List (List Rw)) (f : List Tm) : Prop where
 few : ls.length ≤ 8
 each : ∀ y ∈ ls, y.length ≤ 400
 fl : f.length ≤ 70
 mass : X.mass (flatL ls) ≤ n
theorem SpD.b {n : Int} {ls : List (List Rw)} {f : List Tm} (h : SpD n ls f) : SpB ls f := ⟨Nat.le_trans h.few (by decide), fun y hy => Nat.le_trans (h.each y hy) (by decide), Nat.le_trans h.fl (by decide)⟩
theorem SpD.nil {n : Int} (hn : 0 ≤ n) : SpD n [] [] := ⟨by decide, (fun y hy => absurd hy List.not_mem_nil), by decide, hn⟩
theorem SpD.mono {n m : Int} {ls : List (List Rw)} {f : List Tm} (h : SpD n ls f) (hm : n ≤ m) : SpD m ls f := ⟨h.few, h.each, h.fl, Int.le_trans h.mass hm⟩
theorem SpOk.f {n : Int} {ls : List (List Rw)} {f : List Tm} (h : SpOk ls f) (hf : f.length ≤ 70) (hm : mass (flatL ls) ≤ n) : SpD n ls f := ⟨Nat.le_trans h.few (by decide), fun y hy => (rowsOk_all (batchOk_rows (h.lay y hy))).1, hf, hm⟩
theorem since_F {n : Int} {ls : List (List Rw)} {f l : List Tm} (h : SpD n ls f) (hl : l.length ≤ 66) (hb : sinceB ls f l = true) : SpD n (sinceL ls f l) (sinceF ls f l) ∧ (sinceL ls f l).length ≤ 6 ∧ (sinceF ls f l).length ≤ 66 := by
 unfold sinceL sinceF
 rw [if_pos hb, if_pos hb]
 unfold sinceB at hb
 simp only [Bool.and_eq_true] at hb
 exact ⟨⟨h.few, h.each, Nat.le_trans hl (by decide), h.mass⟩, (spineOk_iff.1 hb.1.1.1).few, hl⟩
theorem join_F {n : Int} {q : Nat} {ls : List (List Rw)} {f : List Tm} {k : Int} (h : SpD n ls f) (hn : n ≤ 99999) (hq : f.length ≤ q) (hb : joinB ls f k = true) : SpD n (joinL ls f k) (joinF ls f k) ∧ (joinL ls f k).length ≤ 6 ∧ (joinF ls f k).length ≤ q := by
 unfold joinL joinF
 rw [if_pos hb, if_pos hb]
 obtain ⟨h1, h2, h3⟩ := joinB_iff.1 hb
 have ho := joinAt_ok h1 h2.2 h3
 have hm := h.mass
 exact ⟨ho.f h.fl (Int.le_trans (mass_joinAt h2.2 (by omega)) hm), ho.few, hq⟩
theorem in_F {n m : Int} {q : Nat} {ls : List (List Rw)} {f : List Tm} {b : List Rw} (h : SpD n ls f) (hn : n ≤ 99999) (hm : mass b ≤ m) (hq : f.length ≤ q) (hb : inB ls f b = true) : SpD (n + m) (inL ls f b) (inF ls f b) ∧ (inL ls f b).length ≤ 6 ∧ (inF ls f b).length ≤ q := by
 unfold inL inF
 rw [if_pos hb, if_pos hb]
 obtain ⟨h1, h2, h3, h4, h5⟩ := inB_iff.1 hb
 have hmm := h.mass
 have hbase : mass (flatL (inBase ls f)) ≤ n := by
  unfold inBase
  split
  ·rename_i h6
   obtain ⟨g1, g2, g3⟩ := joinB_iff.1 (h4 h6)
   rw [Int.toNat_natCast] at g2
   exact Int.le_trans (mass_joinAt g2.2 (by omega)) hmm
  ·exact hmm
 refine ⟨h5.f h.fl ?_, h5.few, hq⟩
 rw [flatL_app, mass_append]
 have e : flatL [b] = b := by show b ++ [] = b; rw [List.append_nil]
 rw [e]
 omega
theorem pp_one {p p2 d e : Int} (g0 : p ≤ p2) (g1 : p2 ≤ p + d) (hd : d ≤ e) : p ≤ p2 ∧ p2 ≤ p + e := ⟨g0, by omega⟩
theorem pp_two {p p2 p3 d1 d2 : Int} (g0 : p ≤ p2) (g1 : p2 ≤ p + d1) (g2 : p2 ≤ p3) (g3 : p3 ≤ p2 + d2) (hd : d1 + d2 ≤ 45) : p ≤ p3 ∧ p3 ≤ p + 45 := ⟨by omega, by omega⟩
structure DF (w0 : World) (rb : Nat) (V : World) (X T : Nat) : Prop where
 v : w0.heap.size ≤ V.heap.size
 x : V.heap.size ≤ X
 xt : X ≠ T
 xr : X ≠ rb
 tr : T ≠ rb
structure DS (w0 : World) (rb : Nat) (s : List Int) (V : World) (X T : Nat) (u v : Value) (ls : List (List Rw)) (f : List Tm) (p : Int) (w : World) : Prop where
 rd : Rd w0 rb s p w
 sp : SpT w V.heap.size okT u v ls f
 xb : w.heap[X]? = some (.cells #[u, v] 26 (0, 0))
 tb : w.heap[T]? = some (.cells #[.slice none 0 0, .slice none 0 0] 26 (0, 0))
 gr : V.grownBy w (some rb)
section
variable {w0 V w w' : World} {rb X T Y base : Nat} {s : List Int} {u v a b : Value} {ls L : List (List Rw)} {f F : List Tm} {p p' : Int}
theorem DS.x0 (h : DS w0 rb s V X T u v ls f p w) : w.cell? ⟨X, 0, none⟩ = some u := blk_cell h.xb 0
theorem DS.x1 (h : DS w0 rb s V X T u v ls f p w) : w.cell? ⟨X, 1, none⟩ = some v := blk_cell h.xb 1
theorem DS.sv (h : DS w0 rb s V X T u v ls f p w) : kTm.R 43 w V.heap.size okT v f := h.sp.2
theorem DS.sl (h : DS w0 rb s V X T u v ls f p w) : kSh.R 27 w V.heap.size okT u ls := h.sp.1
theorem DS.le (h : DS w0 rb s V X T u v ls f p w) : V.heap.size ≤ w.heap.size := h.gr.size
theorem DS.fresh (h : DS w0 rb s V X T u v ls f p w) : w.heap.size ≠ X ∧ w.heap.size ≠ T ∧ w.heap.size ≠ rb := ⟨Nat.ne_of_gt (blk_lt h.xb), Nat.ne_of_gt (blk_lt h.tb), Nat.ne_of_gt h.rd.lt⟩
theorem DS.below (h : DS w0 rb s V X T u v ls f p w) (hb : Below w.heap.size w w') : DS w0 rb s V X T u v ls f p w' := ⟨h.rd.below hb, h.sp.below hb, blk_below h.xb hb, blk_below h.tb hb, grownBy_after h.gr hb⟩
theorem DS.pick (h : DS w0 rb s V X T u v ls f p w) (hr : Rd w0 rb s p' w') (hg : w.grownBy w' (some rb)) (hF : DF w0 rb V X T) : DS w0 rb s V X T u v ls f p' w' :=
 ⟨hr, ⟨R_rd h.sp.1 h.rd hg (by decide), R_rd h.sp.2 h.rd hg (by decide)⟩, blk_grown h.xb hg (fun e => hF.xr (Option.some.inj e)), blk_grown h.tb hg (fun e => hF.tr (Option.some.inj e)), gthen h.gr hg⟩
theorem SpT.set1 (h : SpT w base okT a b L F) {cs : Array Value} (hY : w.heap[Y]? = some (.cells cs 26 (0, 0))) (j : Nat) (x : Value) : SpT (w.setCell ⟨Y, j, none⟩ x) base okT a b L F :=
 ⟨Kd.R_mono (Kd.R_far (offT h.1 hY (by decide)) (p := ⟨Y, j, none⟩) (fun k hk => hk.2) _) (fun _ _ => trivial), Kd.R_mono (Kd.R_far (offT h.2 hY (by decide)) (p := ⟨Y, j, none⟩) (fun k hk => hk.2) _) (fun _ _ => trivial)⟩
theorem SpT.set2 (h : SpT w base okT a b L F) {z0 z1 : Value} (hY : w.heap[Y]? = some (.cells #[z0, z1] 26 (0, 0))) (x y : Value) : SpT ((w.setCell ⟨Y, 0, none⟩ x).setCell ⟨Y, 1, none⟩ y) base okT a b L F :=
 SpT.set1 (SpT.set1 h hY 0 x) (cs := (#[z0, z1]).setIfInBounds 0 x) (by simpa using blk_set hY 0 x) 1 y
theorem DS.set1 (h : DS w0 rb s V X T u v ls f p w) {cs : Array Value} (hY : w.heap[Y]? = some (.cells cs 26 (0, 0))) (hn : Y ≠ X ∧ Y ≠ T ∧ Y ≠ rb) (hV : V.heap.size ≤ Y) (hF : DF w0 rb V X T) (j : Nat) (x : Value) : DS w0 rb s V X T u v ls f p (w.setCell ⟨Y, j, none⟩ x) :=
 ⟨h.rd.far (a := ⟨Y, j, none⟩) (Ne.symm hn.2.2) (Nat.le_trans hF.v hV) x, SpT.set1 h.sp hY j x, blk_far h.xb (p := ⟨Y, j, none⟩) (Ne.symm hn.1) x, blk_far h.tb (p := ⟨Y, j, none⟩) (Ne.symm hn.2.1) x, set_grownX (a := ⟨Y, j, none⟩) hV h.gr x⟩
theorem DS.set2 (h : DS w0 rb s V X T u v ls f p w) {z0 z1 : Value} (hY : w.heap[Y]? = some (.cells #[z0, z1] 26 (0, 0))) (hn : Y ≠ X ∧ Y ≠ T ∧ Y ≠ rb) (hV : V.heap.size ≤ Y) (hF : DF w0 rb V X T) (x y : Value) : DS w0 rb s V X T u v ls f p ((w.setCell ⟨Y, 0, none⟩ x).setCell ⟨Y, 1, none⟩ y) :=
 DS.set1 (DS.set1 h hY hn hV hF 0 x) (cs := (#[z0, z1]).setIfInBounds 0 x) (by simpa using blk_set hY 0 x) hn hV hF 1 y
theorem DS.put (h : DS w0 rb s V X T u v ls f p w) (ht : SpT w V.heap.size okT a b L F) (hF : DF w0 rb V X T) : DS w0 rb s V X T a b L F p ((w.setCell ⟨X, 0, none⟩ a).setCell ⟨X, 1, none⟩ b) :=
 have hX0 := Nat.le_trans hF.v hF.x
 ⟨(h.rd.far (a := ⟨X, 0, none⟩) (Ne.symm hF.xr) hX0 a).far (a := ⟨X, 1, none⟩) (Ne.symm hF.xr) hX0 b, SpT.set2 ht h.xb a b, blk2 h.xb a b, blk_far (blk_far h.tb (p := ⟨X, 0, none⟩) (Ne.symm hF.xt) a) (p := ⟨X, 1, none⟩) (Ne.symm hF.xt) b, set_grownX (a := ⟨X, 1, none⟩) hF.x (set_grownX (a := ⟨X, 0, none⟩) hF.x h.gr a) b⟩
end
section
variable {w0 V w w1 : World} {rb X T base : Nat} {s : List Int} {u v v1 : Value} {ls L : List (List Rw)} {f F : List Tm} {p p' : Int}
theorem DS.fin (h : DS w0 rb s V X T u v ls f p w) (hT : V.heap.size ≤ T) (hF : DF w0 rb V X T) (a b : Value) : Rd w0 rb s p ((w.setCell ⟨T, 0, none⟩ a).setCell ⟨T, 1, none⟩ b) ∧ V.grownBy ((w.setCell ⟨T, 0, none⟩ a).setCell ⟨T, 1, none⟩ b) (some rb) :=
 have hT0 := Nat.le_trans hF.v hT
 ⟨(h.rd.far (a := ⟨T, 0, none⟩) (Ne.symm hF.tr) hT0 a).far (a := ⟨T, 1, none⟩) (Ne.symm hF.tr) hT0 b, set_grownX (a := ⟨T, 1, none⟩) hT (set_grownX (a := ⟨T, 0, none⟩) hT h.gr a) b⟩
theorem DS.app0 (h : DS w0 rb s V X T u v ls f p w) (hr : kSh.R 27 w1 V.heap.size okT v1 L) (hg : w.grownBy w1 u.ownBlock) (hb : Below V.heap.size w w1) (hF : DF w0 rb V X T) (hbl : rb < V.heap.size) :
  w1.heap[X]? = some (.cells #[u, v] 26 (0, 0)) ∧ DS w0 rb s V X T v1 v L f p (w1.setCell ⟨X, 0, none⟩ v1) := by
 have hx := blk_grown h.xb hg (fun e => ((offT h.sp.1 h.xb (by decide)).1 X e.symm).2 rfl)
 have ht := blk_grown h.tb hg (fun e => ((offT h.sp.1 h.tb (by decide)).1 T e.symm).2 rfl)
 have hf := Kd.R_over h.sp.2 h.sp.1 (by decide) hg
 have hX0 := Nat.le_trans hF.v hF.x
 exact ⟨hx, (h.rd.belowB hb hbl).far (a := ⟨X, 0, none⟩) (Ne.symm hF.xr) hX0 v1, SpT.set1 ⟨hr, hf⟩ hx 0 v1, by simpa using blk_set hx 0 v1, blk_far ht (p := ⟨X, 0, none⟩) (Ne.symm hF.xt) v1, set_grownX (a := ⟨X, 0, none⟩) hF.x (gthenB h.gr hb) v1⟩
theorem DS.app1 (h : DS w0 rb s V X T u v ls f p w) (hr : kTm.R 43 w1 V.heap.size okT v1 F) (hg : w.grownBy w1 v.ownBlock) (hb : Below V.heap.size w w1) (hF : DF w0 rb V X T) (hbl : rb < V.heap.size) :
  w1.heap[X]? = some (.cells #[u, v] 26 (0, 0)) ∧ DS w0 rb s V X T u v1 ls F p (w1.setCell ⟨X, 1, none⟩ v1) := by
 have hx := blk_grown h.xb hg (fun e => ((offT h.sp.2 h.xb (by decide)).1 X e.symm).2 rfl)
 have ht := blk_grown h.tb hg (fun e => ((offT h.sp.2 h.tb (by decide)).1 T e.symm).2 rfl)
 have hf := Kd.R_over h.sp.1 h.sp.2 (by decide) hg
 have hX0 := Nat.le_trans hF.v hF.x
 exact ⟨hx, (h.rd.belowB hb hbl).far (a := ⟨X, 1, none⟩) (Ne.symm hF.xr) hX0 v1, SpT.set1 ⟨hf, hr⟩ hx 1 v1, by simpa using blk_set hx 1 v1, blk_far ht (p := ⟨X, 1, none⟩) (Ne.symm hF.xt) v1, set_grownX (a := ⟨X, 1, none⟩) hF.x (gthenB h.gr hb) v1⟩
end
section
variable {ops : Array Oper} {o : Oper} {a : Act} {Q : Exit → Act → World → Prop} {Kc : Act → World → Prop}
theorem stepTm {W : World} {base : Nat} {s x : Operand} {p0 p1 : Int} {xs : List Tm} {ok : Nat → Prop} (hw : Region.wanted o (yielded ops a.tmps) = true)
  (ho : o.op = .call { callee := .builtin .append, args := #[s, x], argTypes := #[24, 24] })
  (hx : a.eval x = .slice (some ⟨W.heap.size, 0, none⟩) 1 1) (HO : kTm.R 43 W base ok (a.eval s) xs) (hfresh : ∀ k, W.heap.size ≤ k → ok k) (hbase : base ≤ W.heap.size) (hl : xs.length < 3518437208000)
  (h : ∀ v1 w1, kTm.R 43 w1 base ok v1 (xs ++ [⟨p0, p1⟩]) → Below base W w1 → W.grownBy w1 (a.eval s).ownBlock → Kc (a.put o.dst v1) w1) :
  if Region.wanted o (yielded ops a.tmps) = true then Oper.wp Try.prog o a (W.alloc (.cells #[.int .i64 p0, .int .i64 p1] 43)) Kc Q else Kc (a.put o.dst undef) (W.alloc (.cells #[.int .i64 p0, .int .i64 p1] 43)) :=
 Kd.R_append_step kTm (w0 := W) base hw s x 24 43 (.agg #[.int .i64 0, .int .i64 0]) 16 ho Try.underlying24 infoTm rfl (by decide) (by omega) _ xs ⟨p0, p1⟩ _ ok (fun _ => False) rfl hx (kTm_M.2 rfl) (fun _ hk => hk.elim) hfresh HO (Below.refl _ _) hbase (by omega) (fun v1 w1 h1 h2 h3 _ => h v1 w1 h1 h2 h3)
end
theorem SpD.snoc {n m : Int} {ls : List (List Rw)} {f : List Tm} {r : List Rw} (h : SpD n ls f) (hl : ls.length ≤ 7) (hr : r.length ≤ 400) (hm : X.mass r ≤ m) : SpD (n + m) (ls ++ [r]) f := by
 refine ⟨by rw [List.length_append, List.length_singleton]; omega, fun y hy => (List.mem_append.1 hy).elim (h.each y) (fun e => by rw [List.mem_singleton.1 e]; exact hr), h.fl, ?_⟩
 rw [flatL_app, mass_append]
 have e : flatL [r] = r := by show r ++ [] = r; rw [List.append_nil]
 rw [e]
 have := h.mass
 omega
theorem SpD.time {n : Int} {ls : List (List Rw)} {f : List Tm} (h : SpD n ls f) (hf : f.length ≤ 69) (z : Tm) : SpD n ls (f ++ [z]) := ⟨h.few, h.each, by rw [List.length_append, List.length_singleton]; omega, h.mass⟩
def SpnP (w0 : World) (rb : Nat) (s : List Int) (p : Int) (V : World) (e : Ending) (w' : World) : Prop := ∃ (u v : Value) (ls : List (List Rw)) (f : List Tm), e = .returned (.agg #[u, v]) ∧ SpT w' V.heap.size okT u v ls f ∧ SpD 120 ls f ∧ Adv w0 rb s p 420 V w'
def tb_spec_l71Spine_6.T : Bool × List (List Nat × List Nat) := (true, [([], []), ([], []), ([], []), ([2], [2]), ([], []), ([4], [4]), ([1, 3, 5, 3], [1, 3, 5]), ([0, 6, 6], [0, 6]), ([7], [7]), ([8], [8]), ([8], [8]), ([], []), ([11, 9, 7, 0, 1, 2, 3, 4, 5, 6, 7, 8, 9, 11], [9, 11]), ([10, 12, 0, 1, 2, 3, 4, 5, 6, 7, 8, 9, 10, 11, 12], [10])])
def tb_spec_l71Spine_6.B : List Nat := [0, 0, 0, 4, 0, 16, 62, 127, 255, 511, 511, 0, 3071, 8191]
theorem tb_spec_l71Spine_6.tab : rtab .any (opsOf Try.f68 6) = tb_spec_l71Spine_6.T := by kernel_rfl
theorem tb_spec_l71Spine_6.bits : waitsOk tb_spec_l71Spine_6.T.2 tb_spec_l71Spine_6.B = true := by kernel_rfl
def tb_spec_l71Spine_10.T : Bool × List (List Nat × List Nat) := (true, [([], []), ([], []), ([1], [1]), ([0, 2, 2], [0, 2]), ([3], [3]), ([4], [4]), ([4], [4]), ([], []), ([7, 5, 3, 0, 1, 2, 3, 4, 5, 7], [5, 7]), ([6, 8, 0, 1, 2, 3, 4, 5, 6, 7, 8], [6])])
def tb_spec_l71Spine_10.B : List Nat := [0, 0, 2, 7, 15, 31, 31, 0, 191, 511]
theorem tb_spec_l71Spine_10.tab : rtab .any (opsOf Try.f68 10) = tb_spec_l71Spine_10.T := by kernel_rfl
theorem tb_spec_l71Spine_10.bits : waitsOk tb_spec_l71Spine_10.T.2 tb_spec_l71Spine_10.B = true := by kernel_rfl
def tb_spec_l71Spine_14.T : Bool × List (List Nat × List Nat) := (true, [([], []), ([], []), ([1], [1]), ([0, 2, 2], [0, 2]), ([3], [3]), ([4], [4]), ([4], [4]), ([], []), ([7, 5, 3, 0, 1, 2, 3, 4, 5, 7], [5, 7]), ([6, 8, 0, 1, 2, 3, 4, 5, 6, 7, 8], [6])])
def tb_spec_l71Spine_14.B : List Nat := [0, 0, 2, 7, 15, 31, 31, 0, 191, 511]
theorem tb_spec_l71Spine_14.tab : rtab .any (opsOf Try.f68 14) = tb_spec_l71Spine_14.T := by kernel_rfl
theorem tb_spec_l71Spine_14.bits : waitsOk tb_spec_l71Spine_14.T.2 tb_spec_l71Spine_14.B = true := by kernel_rfl
def tb_spec_l71Spine_19.T : Bool × List (List Nat × List Nat) := (true, [([], []), ([0], [0]), ([], []), ([2], [2]), ([3], [3]), ([1, 4, 3], [1, 4]), ([0, 1, 2, 3, 4, 5], []), ([6, 5, 5, 0, 1, 2, 3, 4, 5], [5, 6])])
def tb_spec_l71Spine_19.B : List Nat := [0, 1, 0, 4, 12, 31, 63, 127]
theorem tb_spec_l71Spine_19.tab : rtab .any (opsOf Try.f68 19) = tb_spec_l71Spine_19.T := by kernel_rfl
theorem tb_spec_l71Spine_19.bits : waitsOk tb_spec_l71Spine_19.T.2 tb_spec_l71Spine_19.B = true := by kernel_rfl
def tb_spec_l71Spine_21.T : Bool × List (List Nat × List Nat) := (true, [([], []), ([0], [0]), ([], []), ([2], [2]), ([3], [3]), ([1, 4, 3], [1, 4]), ([0, 1, 2, 3, 4, 5], []), ([6, 5, 5, 0, 1, 2, 3, 4, 5], [5, 6])])
def tb_spec_l71Spine_21.B : List Nat := [0, 1, 0, 4, 12, 31, 63, 127]
theorem tb_spec_l71Spine_21.tab : rtab .any (opsOf Try.f68 21) = tb_spec_l71Spine_21.T := by kernel_rfl
theorem tb_spec_l71Spine_21.bits : waitsOk tb_spec_l71Spine_21.T.2 tb_spec_l71Spine_21.B = true := by kernel_rfl
set_option maxRecDepth 100000 in
set_option maxHeartbeats 8000000 in
theorem spec_l71Spine {w0 V : World} {rb : Nat} {s_ : List Int} {p : Int} (hS : Aside0 (RS s_)) (h : Rd w0 rb s_ p V) (hp : p ≤ 500000) : Calls Try.prog 68 #[.pointer (some ⟨rb, 0, none⟩)] V (SpnP w0 rb s_ p V) := by
 have hbl := h.lt
 have hge := h.ge
 have hbs := h.bel.size
 have hnn := h.nn
 have HR := Aside0.mk h
 have CB := Aside0.mk (show ∀ (W : World) (q : Int), Rd w0 rb s_ q W → q ≤ 600000 → Calls Try.prog 71 #[.pointer (some ⟨rb, 0, none⟩), .int .i64 4] W (BatP w0 rb s_ q W 4 41) from fun W q hr hq => spec_l71Batch hS hr hq 4 (by decide))
 have CR := Aside0.mk (show ∀ (W : World) (q : Int), Rd w0 rb s_ q W → q ≤ 600000 → Calls Try.prog 127 #[.pointer (some ⟨rb, 0, none⟩), .int .i64 3] W (fun e W' => ∃ (v : Value) (l : List Rw), e = .returned v ∧ kRw.R 102 W' W.heap.size okT v l ∧ (∀ r ∈ l, small r) ∧ l.length ≤ 3 ∧ Adv w0 rb s_ q 31 W W') from fun W q hr hq => spec_l71Rows hS hr hq 3 (by decide))
 clear h
 go_enter Try.func68, Try.ntmps68
 go_upto_region 2 with fail
 refine name_world fun W0 hW0 => ?_
 have hb0 : Below V.heap.size V W0 := hW0 ▸ below_alloc (below_alloc (Below.refl _ _) _) _
 have T0 : W0.heap[V.heap.size]? = some (.cells #[.slice none 0 0, .slice none 0 0] 26 (0, 0)) := by rw [hW0]; exact (blk_alloc (blk_new V _) _)
 obtain ⟨X, hX⟩ : ∃ X, X = V.heap.size + 1 := ⟨_, rfl⟩
 have X0 : W0.heap[X]? = some (.cells #[.slice none 0 0, .slice none 0 0] 26 (0, 0)) := by rw [hW0, hX]; have := blk_new (V.alloc (.cells #[.slice none 0 0, .slice none 0 0] 26 (0, 0))) (.cells #[.slice none 0 0, .slice none 0 0] 26 (0, 0)); simpa using this
 rw [← hX]
 obtain ⟨T, hT⟩ : ∃ T, T = V.heap.size := ⟨_, rfl⟩
 rw [← hT] at T0 ⊢
 have HFx : Aside0 (DF w0 rb V X T) := ⟨⟨hbs, by omega, by omega, by omega, by omega⟩⟩
 have HTV := Aside0.mk (show V.heap.size ≤ T by omega)
 have HD : Aside0 (DS w0 rb s_ V X T (.slice none 0 0) (.slice none 0 0) [] [] p W0) := ⟨⟨HR.out.below hb0, ⟨Kd.R_nil _ _ _ _ _, Kd.R_nil _ _ _ _ _⟩, X0, T0, grownBy_after ⟨rfl, rfl, rfl, Nat.le_refl _, fun _ _ _ => rfl⟩ hb0⟩⟩
 clear hW0 hT hX T0 X0 hb0 HR
 go_wp2_with (go_at_call 69; ((with_reducible refine (spec_pick hS.out HD.out.rd (by omega) 8 (by omega) (by omega)).mono ?_); rintro e w' ⟨t, rfl, t0, t1, hr, hg⟩; replace HD := Aside0.mk (HD.out.pick hr hg HFx.out); clear hr hg; obtain ⟨n, rfl⟩ := Int.eq_ofNat_of_zero_le t0))
 go_loopg [4] n (fun g i wr => ∃ (m : Nat) (u v : Value) (ls : List (List Rw)) (f : List Tm) (pp : Int), i = .int .i64 m ∧ m ≤ g ∧ ls.length ≤ 6 ∧ f.length ≤ 66 ∧ p ≤ pp ∧ pp + 50 * m ≤ p + 351 ∧ Aside0 (SpD (100 - 12 * m) ls f) ∧ Aside0 (DS w0 rb s_ V X T u v ls f pp wr))
 case atStart => exact ⟨n, _, _, [], [], p + 1, rfl, Nat.le_refl _, by decide, by decide, by omega, by omega, ⟨SpD.nil (by omega)⟩, HD⟩
 case round =>
  clear HD
  obtain ⟨m, u, v, ls, f, pp, rfl, hmg, hl6, hf6, hp0, hp1, HM, HD⟩ := hrel
  cases m with
  | zero =>
   go_upto_region 18 with (go_at_call 69; ((with_reducible refine (spec_pick hS.out HD.out.rd (by omega) 20 (by omega) (by omega)).mono ?_); rintro e w' ⟨t, rfl, t0, t1, hr, hg⟩; replace HD := Aside0.mk (HD.out.pick hr hg HFx.out); clear hr hg))
   obtain ⟨p', hpe⟩ : ∃ p' : Int, p' = pp + 1 := ⟨_, rfl⟩
   rw [← hpe] at HD
   have HQ8 := Aside0.mk (show p' ≤ 800000 by omega)
   have HQ6 := Aside0.mk (show p' ≤ 600000 by omega)
   have hp2 : p ≤ p' ∧ p' ≤ p + 352 := by omega
   have HM0 := HM
   replace HM := Aside0.mk (HM0.out.mono (show (100 : Int) - 12 * ((0 : Nat) : Int) ≤ 120 by decide))
   have hnl : ls.length < 3518437208000 := by omega
   have hnf : f.length < 3518437208000 := Nat.lt_of_le_of_lt HM.out.fl (by decide)
   clear hpe hp0 hp1 hmg
   by_cases ht0 : t = 0
   ·have htb : (t == 0) = true := by rw [ht0]; rfl
    clear ht0 t0 t1
    go_upto_region 19 with fail
    replace HD := Aside0.mk (HD.out.below (below_drew (Below.refl _ _)))
    obtain ⟨A7, c7, e7⟩ := Kd.R_slice HD.out.sp.1
    subst e7
    refine start_ (n := 8) (S := fun w' => w'.cell? ⟨X, 0, none⟩ = some (.slice A7 ls.length c7)) (ds := [7]) #[false, false, false, false, false, false, false, false] (by kernel_rfl) rfl rfl (HD.out.x0) (fun hHeld => ?_)
    refine with_tabW tb_spec_l71Spine_19.tab tb_spec_l71Spine_19.bits (fun HT_ HW_ => ?_)
    refine pure_ (i := 0) (N := some 59) (v := ?_) (a' := ?_) #[true, false, false, false, false, false, false, false] rfl rfl (any_of HT_.out (by kernel_rfl)) (fun _ _ _ h => h) (Or.inl ⟨by rfl, ?_⟩) ?_ ?_
    rotate_left
    ·intro w'
     go_simp
     with_reducible rfl
    rotate_left
    ·simp only [Act.put, setIfInBounds_toArray, set_cons_zero, set_cons_succ, i64_w]
     rfl
    refine pure_ (i := 2) (N := some 61) (v := ?_) (a' := ?_) #[true, false, true, false, false, false, false, false] rfl rfl (any_of HT_.out (by kernel_rfl)) (fun _ _ _ h => h) (Or.inl ⟨by rfl, ?_⟩) ?_ ?_
    rotate_left
    ·intro w'
     go_simp
     with_reducible rfl
    rotate_left
    ·simp only [Act.put, setIfInBounds_toArray, set_cons_zero, set_cons_succ, i64_w]
     rfl
    refine take_ (i := 1) (N := some 60) (v := ?_) (a' := ?_) #[true, true, true, false, false, false, false, false] rfl rfl (take_ofW HT_.out HW_.out (by kernel_rfl)) (fun _ _ _ h => h) (Or.inl ⟨by rfl, ?_⟩) hHeld ?_ ?_
    rotate_left
    ·intro w' s0
     go_simp
     with_reducible rfl
    rotate_left
    ·simp only [Act.put, setIfInBounds_toArray, set_cons_zero, set_cons_succ, i64_w]
     rfl
    refine one_ (i := 3) (N := some 62) #[true, true, true, true, false, false, false, false] rfl rfl (one_of HT_.out (by kernel_rfl)) (by decide) (fun K hK => ?_)
    refine goes_ Try.func127 (by kernel_rfl) rfl #[.pointer (some ⟨rb, 0, none⟩), .int .i64 3] (by rfl) rfl rfl (by simp only [List.map_toArray, List.map_cons, List.map_nil]; rfl) ?_
    with_reducible refine (CR.out _ _ HD.out.rd HQ6.out).mono ?_
    rintro e wa ⟨vr, lr, rfl, hr2, hsm, hl3, p2, g0, g1, hrd, hg⟩
    refine ⟨_, rfl, ?_⟩
    have HOl := Aside0.mk (fun q hq => ((Kd.R_bound HD.out.sp.1).1 q hq).2.2.1)
    obtain ⟨A12, c12, e12⟩ := Kd.R_slice hr2
    subst e12
    have HRW := Aside0.mk (sh_M (Kd.R_lower (Kd.R_mono (Kd.R_bound hr2) (fun q hq => hq.2.1)) HD.out.le))
    have HMS := Aside0.mk (small_mass hsm hl3)
    have HGP := Aside0.mk (And.intro g0 g1)
    replace HD := Aside0.mk (HD.out.pick hrd hg HFx.out)
    clear hr2 hsm hrd hg
    refine hK.out _ _ (HD.out.x0) (fun hHeld => ?_)
    clear hK K
    refine norm_ (a' := ?_) ?_ ?_
    rotate_left
    ·show Act.put _ (some 62) _ = _
     simp only [Act.put, setIfInBounds_toArray, set_cons_zero, set_cons_succ, i64_w]
     rfl
    refine one_ (i := 4) (N := some 63) #[true, true, true, true, true, false, false, false] rfl rfl (one_of HT_.out (by kernel_rfl)) (by decide) (fun K hK => ?_)
    refine value_ (w1 := ?_) (v := ?_) (by rfl) rfl ?_ ?_
    rotate_left 2
    ·go_simp
     constructor
     ·rfl
     ·rfl
    refine hK.out _ _ (pw_cell_below (below_alloc (Below.refl _ _) _) HD.out.x0) (fun hHeld => ?_)
    clear hK K
    refine norm_ (a' := ?_) ?_ ?_
    rotate_left
    ·show Act.put _ (some 63) _ = _
     simp only [Act.put, setIfInBounds_toArray, set_cons_zero, set_cons_succ, i64_w]
     rfl
    refine one_ (i := 5) (N := some 64) #[true, true, true, true, true, true, false, false] rfl rfl (one_of HT_.out (by kernel_rfl)) (by decide) (fun K hK => ?_)
    refine stepLay1 (W := wa) (base := V.heap.size) (xs := ls) (y := lr) (u := .slice A12 lr.length c12) (ok := okT) rfl rfl rfl HD.out.sl HRW.out (fun q hq => ⟨trivial, fun e => Nat.lt_irrefl _ (Nat.lt_of_lt_of_le (HOl.out q e.symm) hq)⟩) (fun _ _ => trivial) HD.out.le hnl ?_
    intro v14 w3 hr3 hb3 hg3
    obtain ⟨A14, c14, e14⟩ := Kd.R_slice hr3
    obtain ⟨m14, hm14⟩ : ∃ m, m = (ls ++ [lr]).length := ⟨_, rfl⟩
    rw [← hm14] at e14
    subst e14
    clear hm14
    have HA0 := Aside0.mk (DS.app0 HD.out hr3 hg3 hb3 HFx.out hbl)
    have x0 := blk_cell HA0.out.1 0
    have xf0 := blk_frozen HA0.out.1 0
    clear hr3 hb3 hg3
    refine hK.out _ _ (x0) (fun hHeld => ?_)
    clear hK K
    refine norm_ (a' := ?_) ?_ ?_
    rotate_left
    ·show Act.put _ (some 64) _ = _
     simp only [Act.put, setIfInBounds_toArray, set_cons_zero, set_cons_succ, i64_w]
     rfl
    refine pure_ (i := 6) (N := some 65) (v := ?_) (a' := ?_) #[true, true, true, true, true, true, true, false] rfl rfl (any_of HT_.out (by kernel_rfl)) (fun _ _ _ h => h) (Or.inl ⟨by rfl, ?_⟩) ?_ ?_
    rotate_left
    ·intro w'
     go_simp
     with_reducible rfl
    rotate_left
    ·simp only [Act.put, setIfInBounds_toArray, set_cons_zero, set_cons_succ, i64_w]
     rfl
    refine last_ (i := 7) (N := none) #[true, true, true, true, true, true, true, true] rfl rfl (one_of HT_.out (by kernel_rfl)) (by decide) (fun K hK => ?_)
    refine skip_ (w1 := ?_) (by rfl) rfl ?_ ?_
    rotate_left
    ·go_simp
     rfl
    refine hK.out _ _ ?_
    clear hK K
    refine done_ (done_of HT_.out (by kernel_rfl)) ?_
    have hd := HA0.out.2
    obtain ⟨wz, hwz⟩ : ∃ wz, wz = w3.setCell ⟨X, 0, none⟩ (.slice A14 m14 c14) := ⟨_, rfl⟩
    rw [← hwz] at hd ⊢
    replace HD := Aside0.mk hd
    clear hd hwz x0 xf0 hHeld HA0 HT_ HW_
    clear hHeld
    obtain ⟨g0, g1⟩ := HGP.out
    replace HM := Aside0.mk ((HM0.out.snoc (Nat.le_trans hl6 (by decide)) (Nat.le_trans hl3 (by decide)) HMS.out).mono (show (100 : Int) - 12 * ((0 : Nat) : Int) + 3 * ((3 : Nat) : Int) ≤ 120 by decide))
    obtain ⟨A9, c9, e9⟩ := Kd.R_slice HD.out.sp.1
    first | subst e9 | clear e9
    obtain ⟨A10, c10, e9⟩ := Kd.R_slice HD.out.sp.2
    first | subst e9 | clear e9
    have x0 := HD.out.x0
    have x1 := HD.out.x1
    have v0 := blk_cell HD.out.tb 0
    have v1 := blk_cell HD.out.tb 1
    have tf0 := blk_fz HD.out.tb 0
    have tf1 := blk_fz HD.out.tb 1
    go_wp2
    refine ret_cell (p := 2) (g := T) rfl rfl rfl (blk2 HD.out.tb _ _) Try.underlying26 rfl (by kernel_rfl) ?_
    exact ⟨_, _, _, _, rfl, SpT.set2 HD.out.sp HD.out.tb _ _, HM.out, p2, by omega, by omega, DS.fin HD.out HTV.out HFx.out _ _⟩
   ·have htb : (t == 0) = false := by simp [ht0]
    by_cases ht1 : t = 1
    ·have htb1 : (t == 1) = true := by rw [ht1]; rfl
     clear ht0 ht1 t0 t1
     go_upto_region 21 with fail
     replace HD := Aside0.mk (HD.out.below (below_drew (Below.refl _ _)))
     obtain ⟨A7, c7, e7⟩ := Kd.R_slice HD.out.sp.2
     subst e7
     refine start_ (n := 8) (S := fun w' => w'.cell? ⟨X, 1, none⟩ = some (.slice A7 f.length c7)) (ds := [7]) #[false, false, false, false, false, false, false, false] (by kernel_rfl) rfl rfl (HD.out.x1) (fun hHeld => ?_)
     refine with_tabW tb_spec_l71Spine_21.tab tb_spec_l71Spine_21.bits (fun HT_ HW_ => ?_)
     refine pure_ (i := 0) (N := some 68) (v := ?_) (a' := ?_) #[true, false, false, false, false, false, false, false] rfl rfl (any_of HT_.out (by kernel_rfl)) (fun _ _ _ h => h) (Or.inl ⟨by rfl, ?_⟩) ?_ ?_
     rotate_left
     ·intro w'
      go_simp
      with_reducible rfl
     rotate_left
     ·simp only [Act.put, setIfInBounds_toArray, set_cons_zero, set_cons_succ, i64_w]
      rfl
     refine pure_ (i := 2) (N := some 70) (v := ?_) (a' := ?_) #[true, false, true, false, false, false, false, false] rfl rfl (any_of HT_.out (by kernel_rfl)) (fun _ _ _ h => h) (Or.inl ⟨by rfl, ?_⟩) ?_ ?_
     rotate_left
     ·intro w'
      go_simp
      with_reducible rfl
     rotate_left
     ·simp only [Act.put, setIfInBounds_toArray, set_cons_zero, set_cons_succ, i64_w]
      rfl
     refine take_ (i := 1) (N := some 69) (v := ?_) (a' := ?_) #[true, true, true, false, false, false, false, false] rfl rfl (take_ofW HT_.out HW_.out (by kernel_rfl)) (fun _ _ _ h => h) (Or.inl ⟨by rfl, ?_⟩) hHeld ?_ ?_
     rotate_left
     ·intro w' s0
      go_simp
      with_reducible rfl
     rotate_left
     ·simp only [Act.put, setIfInBounds_toArray, set_cons_zero, set_cons_succ, i64_w]
      rfl
     refine one_ (i := 3) (N := some 71) #[true, true, true, true, false, false, false, false] rfl rfl (one_of HT_.out (by kernel_rfl)) (by decide) (fun K hK => ?_)
     refine goes_ Try.func88 (by kernel_rfl) rfl #[.pointer (some ⟨rb, 0, none⟩)] (by rfl) rfl rfl (by simp only [List.map_toArray, List.map_cons, List.map_nil]; rfl) ?_
     with_reducible refine (spec_l71Odd hS HD.out.rd HQ8.out).mono ?_
     rintro e wa ⟨z, rfl, hz, p2, g0, g1, hrd, hg⟩
     refine ⟨_, rfl, ?_⟩
     have HGP := Aside0.mk (And.intro g0 g1)
     replace HD := Aside0.mk (HD.out.pick hrd hg HFx.out)
     clear hrd hg hz
     refine hK.out _ _ (HD.out.x1) (fun hHeld => ?_)
     clear hK K
     refine norm_ (a' := ?_) ?_ ?_
     rotate_left
     ·show Act.put _ (some 71) _ = _
      simp only [Act.put, setIfInBounds_toArray, set_cons_zero, set_cons_succ, i64_w]
      rfl
     refine one_ (i := 4) (N := some 72) #[true, true, true, true, true, false, false, false] rfl rfl (one_of HT_.out (by kernel_rfl)) (by decide) (fun K hK => ?_)
     refine value_ (w1 := ?_) (v := ?_) (by rfl) rfl ?_ ?_
     rotate_left 2
     ·go_simp
      constructor
      ·rfl
      ·rfl
     refine hK.out _ _ (pw_cell_below (below_alloc (Below.refl _ _) _) HD.out.x1) (fun hHeld => ?_)
     clear hK K
     refine norm_ (a' := ?_) ?_ ?_
     rotate_left
     ·show Act.put _ (some 72) _ = _
      simp only [Act.put, setIfInBounds_toArray, set_cons_zero, set_cons_succ, i64_w]
      rfl
     refine one_ (i := 5) (N := some 73) #[true, true, true, true, true, true, false, false] rfl rfl (one_of HT_.out (by kernel_rfl)) (by decide) (fun K hK => ?_)
     refine stepTm (W := wa) (base := V.heap.size) (xs := f) (ok := okT) rfl rfl rfl HD.out.sv (fun _ _ => trivial) HD.out.le hnf ?_
     intro v14 w3 hr3 hb3 hg3
     obtain ⟨A14, c14, e14⟩ := Kd.R_slice hr3
     obtain ⟨m14, hm14⟩ : ∃ m, m = (f ++ [(⟨z.f0, z.f1⟩ : Tm)]).length := ⟨_, rfl⟩
     rw [← hm14] at e14
     subst e14
     clear hm14
     have HA0 := Aside0.mk (DS.app1 HD.out hr3 hg3 hb3 HFx.out hbl)
     have x0 := blk_cell HA0.out.1 1
     have xf0 := blk_frozen HA0.out.1 1
     clear hr3 hb3 hg3
     refine hK.out _ _ (x0) (fun hHeld => ?_)
     clear hK K
     refine norm_ (a' := ?_) ?_ ?_
     rotate_left
     ·show Act.put _ (some 73) _ = _
      simp only [Act.put, setIfInBounds_toArray, set_cons_zero, set_cons_succ, i64_w]
      rfl
     refine pure_ (i := 6) (N := some 74) (v := ?_) (a' := ?_) #[true, true, true, true, true, true, true, false] rfl rfl (any_of HT_.out (by kernel_rfl)) (fun _ _ _ h => h) (Or.inl ⟨by rfl, ?_⟩) ?_ ?_
     rotate_left
     ·intro w'
      go_simp
      with_reducible rfl
     rotate_left
     ·simp only [Act.put, setIfInBounds_toArray, set_cons_zero, set_cons_succ, i64_w]
      rfl
     refine last_ (i := 7) (N := none) #[true, true, true, true, true, true, true, true] rfl rfl (one_of HT_.out (by kernel_rfl)) (by decide) (fun K hK => ?_)
     refine skip_ (w1 := ?_) (by rfl) rfl ?_ ?_
     rotate_left
     ·go_simp
      rfl
     refine hK.out _ _ ?_
     clear hK K
     refine done_ (done_of HT_.out (by kernel_rfl)) ?_
     have hd := HA0.out.2
     obtain ⟨wz, hwz⟩ : ∃ wz, wz = w3.setCell ⟨X, 1, none⟩ (.slice A14 m14 c14) := ⟨_, rfl⟩
     rw [← hwz] at hd ⊢
     replace HD := Aside0.mk hd
     clear hd hwz x0 xf0 hHeld HA0 HT_ HW_
     clear hHeld
     obtain ⟨g0, g1⟩ := HGP.out
     replace HM := Aside0.mk (HM.out.time (Nat.le_trans hf6 (by decide)) (⟨z.f0, z.f1⟩ : Tm))
     obtain ⟨A9, c9, e9⟩ := Kd.R_slice HD.out.sp.1
     first | subst e9 | clear e9
     obtain ⟨A10, c10, e9⟩ := Kd.R_slice HD.out.sp.2
     first | subst e9 | clear e9
     have x0 := HD.out.x0
     have x1 := HD.out.x1
     have v0 := blk_cell HD.out.tb 0
     have v1 := blk_cell HD.out.tb 1
     have tf0 := blk_fz HD.out.tb 0
     have tf1 := blk_fz HD.out.tb 1
     go_wp2
     refine ret_cell (p := 2) (g := T) rfl rfl rfl (blk2 HD.out.tb _ _) Try.underlying26 rfl (by kernel_rfl) ?_
     exact ⟨_, _, _, _, rfl, SpT.set2 HD.out.sp HD.out.tb _ _, HM.out, p2, by omega, by omega, DS.fin HD.out HTV.out HFx.out _ _⟩
    ·have htb1 : (t == 1) = false := by simp [ht1]
     by_cases ht2 : t = 2
     ·have htb2 : (t == 2) = true := by rw [ht2]; rfl
      clear ht0 ht1 ht2 t0 t1
      go_wp2
      go_loopg [] 7 (fun g wr => ∃ (u v : Value) (ls : List (List Rw)), ls.length ≤ 7 ∧ 7 - ls.length ≤ g ∧ Aside0 (SpD 120 ls f) ∧ Aside0 (DS w0 rb s_ V X T u v ls f p' wr))
      case atStart => exact ⟨u, v, ls, by omega, by omega, HM, HD⟩
      case round =>
       clear HD HM HM0 hl6 hnl
       obtain ⟨u, v, ls, hl7, hgl, HM, HD⟩ := hrel
       have hnl : ls.length < 3518437208000 := by omega
       obtain ⟨A7, c7, e7⟩ := Kd.R_slice HD.out.sp.1
       subst e7
       have x0 := HD.out.x0
       by_cases hlt : ls.length ≤ 6
       ·have hltz : (ls.length : Int) ≤ 6 := by omega
        go_wp2_with (at_builtin; (refine appLay (W := wr) (base := V.heap.size) (N0 := V.heap.size) (xs := ls) (y := []) (u := .slice none 0 0) (ok := okT) rfl rfl rfl HD.out.sl (sh_M (Kd.R_nil _ _ _ _ _)) (fun q hq => ((Kd.R_bound HD.out.sp.1).1 q hq).2.1) HD.out.le (fun _ _ => trivial) (fun _ _ => trivial) HD.out.le hnl ?_; intro v13 we hr1 hb1 ho1 hg1; obtain ⟨A13, c13, e13⟩ := Kd.R_slice hr1; obtain ⟨m13, hm13⟩ : ∃ m, m = (ls ++ [([] : List Rw)]).length := ⟨_, rfl⟩; rw [← hm13] at e13; subst e13; clear hm13; have HA0 := Aside0.mk (DS.app0 HD.out hr1 hg1 hb1 HFx.out hbl); have y0 := blk_cell HA0.out.1 0; have yf0 := blk_frozen HA0.out.1 0; clear hr1 hb1 hg1 ho1))
        go_roundg (7 - (ls.length + 1))
        case measure => omega
        case rel => exact ⟨_, _, ls ++ [[]], by rw [List.length_append, List.length_singleton]; omega, by rw [List.length_append, List.length_singleton]; omega, ⟨(HM.out.snoc hl7 (by decide) (show mass [] ≤ 0 from Int.le_refl _)).mono (by decide)⟩, ⟨HA0.out.2⟩⟩
       ·have hltz : ¬ (ls.length : Int) ≤ 6 := by omega
        obtain ⟨A9, c9, e9⟩ := Kd.R_slice HD.out.sp.1
        first | subst e9 | clear e9
        obtain ⟨A10, c10, e9⟩ := Kd.R_slice HD.out.sp.2
        first | subst e9 | clear e9
        have x0 := HD.out.x0
        have x1 := HD.out.x1
        have v0 := blk_cell HD.out.tb 0
        have v1 := blk_cell HD.out.tb 1
        have tf0 := blk_fz HD.out.tb 0
        have tf1 := blk_fz HD.out.tb 1
        go_wp2
        refine ret_cell (p := 2) (g := T) rfl rfl rfl (blk2 HD.out.tb _ _) Try.underlying26 rfl (by kernel_rfl) ?_
        exact ⟨_, _, _, _, rfl, SpT.set2 HD.out.sp HD.out.tb _ _, HM.out, p', by omega, by omega, DS.fin HD.out HTV.out HFx.out _ _⟩
     ·have htb2 : (t == 2) = false := by simp [ht2]
      clear ht0 ht1 ht2 t0 t1
      obtain ⟨A9, c9, e9⟩ := Kd.R_slice HD.out.sp.1
      first | subst e9 | clear e9
      obtain ⟨A10, c10, e9⟩ := Kd.R_slice HD.out.sp.2
      first | subst e9 | clear e9
      have x0 := HD.out.x0
      have x1 := HD.out.x1
      have v0 := blk_cell HD.out.tb 0
      have v1 := blk_cell HD.out.tb 1
      have tf0 := blk_fz HD.out.tb 0
      have tf1 := blk_fz HD.out.tb 1
      go_wp2
      refine ret_cell (p := 2) (g := T) rfl rfl rfl (blk2 HD.out.tb _ _) Try.underlying26 rfl (by kernel_rfl) ?_
      exact ⟨_, _, _, _, rfl, SpT.set2 HD.out.sp HD.out.tb _ _, HM.out, p', by omega, by omega, DS.fin HD.out HTV.out HFx.out _ _⟩
  | succ m =>
   have ew2 : wrap64 (((m + 1 : Nat) : Int) - 1) = (m : Int) := by unfold wrap64; omega
   have hm0 : (0 : Int) < ((m + 1 : Nat) : Int) := by omega
   go_upto_region 9 with (go_at_call 69; ((with_reducible refine (spec_pick hS.out HD.out.rd (by omega) 8 (by omega) (by omega)).mono ?_); rintro e w' ⟨t, rfl, t0, t1, hr, hg⟩; replace HD := Aside0.mk (HD.out.pick hr hg HFx.out); clear hr hg))
   obtain ⟨p', hpe⟩ : ∃ p' : Int, p' = pp + 1 := ⟨_, rfl⟩
   rw [← hpe] at HD
   have HQ1 := Aside0.mk (show p' ≤ 1000000 by omega)
   have HQ8 := Aside0.mk (show p' ≤ 800000 by omega)
   have HQ6 := Aside0.mk (show p' ≤ 600000 by omega)
   have HQ := Aside0.mk (show ∀ q : Int, q ≤ p' + 41 → q ≤ 800000 from fun q hq => by omega)
   have HJ1 := Aside0.mk (show p' ≤ p' + 1 ∧ p' + 1 ≤ p' + 45 by omega)
   have HSB := Aside0.mk HM.out.b
   have HFL := Aside0.mk (Nat.le_trans HM.out.fl (show 70 ≤ 100000 by decide))
   have MB := Aside0.mk (show (100 : Int) - 12 * ((m + 1 : Nat) : Int) ≤ 99999 by omega)
   by_cases ht0 : t = 0
   ·have htb : (t == 0) = true := by rw [ht0]; rfl
    clear ht0 t0 t1
    go_upto_region 10 with fail
    replace HD := Aside0.mk (HD.out.below (below_drew (Below.refl _ _)))
    refine start_ (n := 10) (S := fun w' => w'.cell? ⟨X, 0, none⟩ = some u ∧ w'.cell? ⟨X, 1, none⟩ = some v) (ds := [8]) #[false, false, false, false, false, false, false, false, false, false] (by kernel_rfl) rfl rfl ⟨HD.out.x0, HD.out.x1⟩ (fun hHeld => ?_)
    refine with_tabW tb_spec_l71Spine_10.tab tb_spec_l71Spine_10.bits (fun HT_ HW_ => ?_)
    refine pure_ (i := 1) (N := some 37) (v := ?_) (a' := ?_) #[false, true, false, false, false, false, false, false, false, false] rfl rfl (any_of HT_.out (by kernel_rfl)) (fun _ _ _ h => h) (Or.inl ⟨by rfl, ?_⟩) ?_ ?_
    rotate_left
    ·intro w'
     go_simp
     with_reducible rfl
    rotate_left
    ·simp only [Act.put, setIfInBounds_toArray, set_cons_zero, set_cons_succ, i64_w]
     rfl
    refine take_ (i := 0) (N := some 36) (v := ?_) (a' := ?_) #[true, true, false, false, false, false, false, false, false, false] rfl rfl (take_ofW HT_.out HW_.out (by kernel_rfl)) (fun _ _ _ h => h) (Or.inl ⟨by rfl, ?_⟩) hHeld ?_ ?_
    rotate_left
    ·rintro w' ⟨s0, s1⟩
     go_simp
     with_reducible rfl
    rotate_left
    ·simp only [Act.put, setIfInBounds_toArray, set_cons_zero, set_cons_succ, i64_w]
     rfl
    refine join_ (σ := (Value × List Tm × Option Addr × Nat × Option Addr × Nat × Nat × Int)) 2 #[true, true, true, true, true, true, true, true, false, false] (fun s => [(38, s.1), (39, .tuple #[.agg #[(.slice s.2.2.1 (sinceL ls f s.2.1).length s.2.2.2.1), (.slice s.2.2.2.2.1 (sinceF ls f s.2.1).length s.2.2.2.2.2.1)], .bool (sinceB ls f s.2.1)]), (35, .tuple #[.agg #[(.slice s.2.2.1 (sinceL ls f s.2.1).length s.2.2.2.1), (.slice s.2.2.2.2.1 (sinceF ls f s.2.1).length s.2.2.2.2.2.1)], .bool (sinceB ls f s.2.1)]), (40, .agg #[(.slice s.2.2.1 (sinceL ls f s.2.1).length s.2.2.2.1), (.slice s.2.2.2.2.1 (sinceF ls f s.2.1).length s.2.2.2.2.2.1)]), (41, .bool (sinceB ls f s.2.1)), (5, .pointer (some ⟨s.2.2.2.2.2.2.1, 0, none⟩))]) (fun s w' => w'.cell? ⟨X, 0, none⟩ = some u ∧ w'.cell? ⟨X, 1, none⟩ = some v ∧ V.heap.size ≤ s.2.2.2.2.2.2.1 ∧ (s.2.2.2.2.2.2.1 ≠ X ∧ s.2.2.2.2.2.2.1 ≠ T ∧ s.2.2.2.2.2.2.1 ≠ rb) ∧ w'.heap[s.2.2.2.2.2.2.1]? = some (.cells #[.slice none 0 0, .slice none 0 0] 26 (0, 0)) ∧ SpT w' V.heap.size okT (.slice s.2.2.1 (sinceL ls f s.2.1).length s.2.2.2.1) (.slice s.2.2.2.2.1 (sinceF ls f s.2.1).length s.2.2.2.2.2.1) (sinceL ls f s.2.1) (sinceF ls f s.2.1) ∧ DS w0 rb s_ V X T u v ls f s.2.2.2.2.2.2.2 w' ∧ (s.2.1.length ≤ 64 ∧ p' ≤ s.2.2.2.2.2.2.2 ∧ s.2.2.2.2.2.2.2 ≤ p' + 45)) ?_ ?_
    rotate_left
    ·intro hCont
     refine two_ (i := 2) (j := 7) (Ni := some 38) (Nj := some 5) #[true, true, true, false, false, false, false, false, false, false] #[true, true, false, false, false, false, false, true, false, false] rfl rfl rfl rfl (two_of HT_.out (by kernel_rfl)) (by decide) (by decide) (fun K hK => ?_) (fun K hK => ?_)
     ·skip
      refine goes_ Try.func126 (by kernel_rfl) rfl #[.pointer (some ⟨rb, 0, none⟩)] (by rfl) rfl rfl (by simp only [List.map_toArray, List.map_cons, List.map_nil]; rfl) ?_
      with_reducible refine (spec_l71Front hS HD.out.rd HQ8.out).mono ?_
      rintro e wq ⟨v2, l, rfl, hr2, hl2, ho2, p2, g0, g1, hrd, hg⟩
      refine ⟨_, rfl, ?_⟩
      have HN := Aside0.mk hr2
      have HGP := Aside0.mk (pp_one g0 g1 (by decide : (31 : Int) ≤ 45))
      replace HD := Aside0.mk (HD.out.pick hrd hg HFx.out)
      clear hr2 hrd hg
      refine hK.out _ _ ⟨HD.out.x0, HD.out.x1⟩ (fun hHeld => ?_)
      clear hK K
      refine norm_ (a' := ?_) ?_ ?_
      rotate_left
      ·show Act.put _ (some 38) _ = _
       simp only [Act.put, setIfInBounds_toArray, set_cons_zero, set_cons_succ, i64_w]
       rfl
      refine two_ (i := 3) (j := 7) (Ni := some 39) (Nj := some 5) #[true, true, true, true, false, false, false, false, false, false] #[true, true, true, false, false, false, false, true, false, false] rfl rfl rfl rfl (two_of HT_.out (by kernel_rfl)) (by decide) (by decide) (fun K hK => ?_) (fun K hK => ?_)
      ·skip
       refine goes_ Try.func23 (by kernel_rfl) rfl #[.agg #[u, v], v2] (by rfl) rfl rfl (by simp only [List.map_toArray, List.map_cons, List.map_nil]; rfl) ?_
       with_reducible refine (spec_SinceH u v v2 ls f l _ HD.out.sp.s (Sl.of_R HN.out) HSB.out (Nat.le_trans hl2 (by decide))).mono ?_
       rintro e wq ⟨a, b, rfl, hr9, hb9⟩
       refine ⟨_, rfl, ?_⟩
       obtain ⟨A9, c9, e9⟩ := Kd.R_slice hr9.1
       subst e9
       obtain ⟨A10, c10, e9⟩ := Kd.R_slice hr9.2
       subst e9
       have HSJ := Aside0.mk (SpT.lower (hr9) HD.out.le)
       replace HD := Aside0.mk (HD.out.below hb9)
       clear hr9 hb9
       refine hK.out _ _ ⟨HD.out.x0, HD.out.x1⟩ (fun hHeld => ?_)
       clear hK K
       refine norm_ (a' := ?_) ?_ ?_
       rotate_left
       ·show Act.put _ (some 39) _ = _
        simp only [Act.put, setIfInBounds_toArray, set_cons_zero, set_cons_succ, i64_w]
        rfl
       refine pure_ (i := 4) (N := some 35) (v := ?_) (a' := ?_) #[true, true, true, true, true, false, false, false, false, false] rfl rfl (any_of HT_.out (by kernel_rfl)) (fun _ _ _ h => h) (Or.inl ⟨by rfl, ?_⟩) ?_ ?_
       rotate_left
       ·intro w'
        go_simp
        with_reducible rfl
       rotate_left
       ·simp only [Act.put, setIfInBounds_toArray, set_cons_zero, set_cons_succ, i64_w]
        rfl
       refine pure_ (i := 5) (N := some 40) (v := ?_) (a' := ?_) #[true, true, true, true, true, true, false, false, false, false] rfl rfl (any_of HT_.out (by kernel_rfl)) (fun _ _ _ h => h) (Or.inl ⟨by rfl, ?_⟩) ?_ ?_
       rotate_left
       ·intro w'
        go_simp
        with_reducible rfl
       rotate_left
       ·simp only [Act.put, setIfInBounds_toArray, set_cons_zero, set_cons_succ, i64_w]
        rfl
       refine pure_ (i := 6) (N := some 41) (v := ?_) (a' := ?_) #[true, true, true, true, true, true, true, false, false, false] rfl rfl (any_of HT_.out (by kernel_rfl)) (fun _ _ _ h => h) (Or.inl ⟨by rfl, ?_⟩) ?_ ?_
       rotate_left
       ·intro w'
        go_simp
        with_reducible rfl
       rotate_left
       ·simp only [Act.put, setIfInBounds_toArray, set_cons_zero, set_cons_succ, i64_w]
        rfl
       refine one_ (i := 7) (N := some 5) #[true, true, true, true, true, true, true, true, false, false] rfl rfl (one_of HT_.out (by kernel_rfl)) (by decide) (fun K hK => ?_)
       refine box_step ?hb9 (N := 5) ?hd9 (cs := #[.slice none 0 0, .slice none 0 0]) (t := 26) ?hr9 ?_; (case hd9 => rfl); (case hb9 => rfl); (case hr9 => first|(go_simp; done)|(go_simp; rfl))
       intro Y hYe wq hy hby
       have HY := Aside0.mk hy
       have hYN : V.heap.size ≤ Y := by rw [hYe]; exact HD.out.le
       have HYn : Aside0 (Y ≠ X ∧ Y ≠ T ∧ Y ≠ rb) := ⟨by rw [hYe]; exact HD.out.fresh⟩
       replace HSJ := Aside0.mk (SpT.below HSJ.out hby)
       replace HD := Aside0.mk (HD.out.below hby)
       clear hy hYe hby
       refine hK.out _ _ ⟨HD.out.x0, HD.out.x1⟩ (fun hHeld => ?_)
       clear hK K
       refine norm_ (a' := ?_) ?_ ?_
       rotate_left
       ·show Act.put _ (some 5) _ = _
        simp only [Act.put, setIfInBounds_toArray, set_cons_zero, set_cons_succ, i64_w]
        rfl
       exact norm_ (by simp only [Go.Proofs.YtkdendlgaaimbaaW.PrintLast.putAll, Act.put, List.setIfInBounds_toArray, List.set_cons_zero, List.set_cons_succ]) (hCont (v2, l, A9, c9, A10, c10, Y, p2) _ ⟨HD.out.x0, HD.out.x1, hYN, HYn.out, HY.out, HSJ.out, HD.out, ⟨hl2, HGP.out.1, HGP.out.2⟩⟩)
      ·skip
       refine box_step ?hb9 (N := 5) ?hd9 (cs := #[.slice none 0 0, .slice none 0 0]) (t := 26) ?hr9 ?_; (case hd9 => rfl); (case hb9 => rfl); (case hr9 => first|(go_simp; done)|(go_simp; rfl))
       intro Y hYe wq hy hby
       have HY := Aside0.mk hy
       have hYN : V.heap.size ≤ Y := by rw [hYe]; exact HD.out.le
       have HYn : Aside0 (Y ≠ X ∧ Y ≠ T ∧ Y ≠ rb) := ⟨by rw [hYe]; exact HD.out.fresh⟩
       replace HN := Aside0.mk (Kd.R_below HN.out hby)
       replace HD := Aside0.mk (HD.out.below hby)
       clear hy hYe hby
       refine hK.out _ _ ⟨HD.out.x0, HD.out.x1⟩ (fun hHeld => ?_)
       clear hK K
       refine norm_ (a' := ?_) ?_ ?_
       rotate_left
       ·show Act.put _ (some 5) _ = _
        simp only [Act.put, setIfInBounds_toArray, set_cons_zero, set_cons_succ, i64_w]
        rfl
       refine one_ (i := 3) (N := some 39) #[true, true, true, true, false, false, false, true, false, false] rfl rfl (one_of HT_.out (by kernel_rfl)) (by decide) (fun K hK => ?_)
       refine goes_ Try.func23 (by kernel_rfl) rfl #[.agg #[u, v], v2] (by rfl) rfl rfl (by simp only [List.map_toArray, List.map_cons, List.map_nil]; rfl) ?_
       with_reducible refine (spec_SinceH u v v2 ls f l _ HD.out.sp.s (Sl.of_R HN.out) HSB.out (Nat.le_trans hl2 (by decide))).mono ?_
       rintro e wq ⟨a, b, rfl, hr9, hb9⟩
       refine ⟨_, rfl, ?_⟩
       obtain ⟨A9, c9, e9⟩ := Kd.R_slice hr9.1
       subst e9
       obtain ⟨A10, c10, e9⟩ := Kd.R_slice hr9.2
       subst e9
       have HSJ := Aside0.mk (SpT.lower (hr9) HD.out.le)
       replace HY := Aside0.mk (blk_below HY.out hb9)
       replace HD := Aside0.mk (HD.out.below hb9)
       clear hr9 hb9
       refine hK.out _ _ ⟨HD.out.x0, HD.out.x1⟩ (fun hHeld => ?_)
       clear hK K
       refine norm_ (a' := ?_) ?_ ?_
       rotate_left
       ·show Act.put _ (some 39) _ = _
        simp only [Act.put, setIfInBounds_toArray, set_cons_zero, set_cons_succ, i64_w]
        rfl
       refine pure_ (i := 4) (N := some 35) (v := ?_) (a' := ?_) #[true, true, true, true, true, false, false, true, false, false] rfl rfl (any_of HT_.out (by kernel_rfl)) (fun _ _ _ h => h) (Or.inl ⟨by rfl, ?_⟩) ?_ ?_
       rotate_left
       ·intro w'
        go_simp
        with_reducible rfl
       rotate_left
       ·simp only [Act.put, setIfInBounds_toArray, set_cons_zero, set_cons_succ, i64_w]
        rfl
       refine pure_ (i := 5) (N := some 40) (v := ?_) (a' := ?_) #[true, true, true, true, true, true, false, true, false, false] rfl rfl (any_of HT_.out (by kernel_rfl)) (fun _ _ _ h => h) (Or.inl ⟨by rfl, ?_⟩) ?_ ?_
       rotate_left
       ·intro w'
        go_simp
        with_reducible rfl
       rotate_left
       ·simp only [Act.put, setIfInBounds_toArray, set_cons_zero, set_cons_succ, i64_w]
        rfl
       refine pure_ (i := 6) (N := some 41) (v := ?_) (a' := ?_) #[true, true, true, true, true, true, true, true, false, false] rfl rfl (any_of HT_.out (by kernel_rfl)) (fun _ _ _ h => h) (Or.inl ⟨by rfl, ?_⟩) ?_ ?_
       rotate_left
       ·intro w'
        go_simp
        with_reducible rfl
       rotate_left
       ·simp only [Act.put, setIfInBounds_toArray, set_cons_zero, set_cons_succ, i64_w]
        rfl
       exact norm_ (by simp only [Go.Proofs.YtkdendlgaaimbaaW.PrintLast.putAll, Act.put, List.setIfInBounds_toArray, List.set_cons_zero, List.set_cons_succ]) (hCont (v2, l, A9, c9, A10, c10, Y, p2) _ ⟨HD.out.x0, HD.out.x1, hYN, HYn.out, HY.out, HSJ.out, HD.out, ⟨hl2, HGP.out.1, HGP.out.2⟩⟩)
     ·skip
      refine box_step ?hb9 (N := 5) ?hd9 (cs := #[.slice none 0 0, .slice none 0 0]) (t := 26) ?hr9 ?_; (case hd9 => rfl); (case hb9 => rfl); (case hr9 => first|(go_simp; done)|(go_simp; rfl))
      intro Y hYe wq hy hby
      have HY := Aside0.mk hy
      have hYN : V.heap.size ≤ Y := by rw [hYe]; exact HD.out.le
      have HYn : Aside0 (Y ≠ X ∧ Y ≠ T ∧ Y ≠ rb) := ⟨by rw [hYe]; exact HD.out.fresh⟩
      replace HD := Aside0.mk (HD.out.below hby)
      clear hy hYe hby
      refine hK.out _ _ ⟨HD.out.x0, HD.out.x1⟩ (fun hHeld => ?_)
      clear hK K
      refine norm_ (a' := ?_) ?_ ?_
      rotate_left
      ·show Act.put _ (some 5) _ = _
       simp only [Act.put, setIfInBounds_toArray, set_cons_zero, set_cons_succ, i64_w]
       rfl
      refine one_ (i := 2) (N := some 38) #[true, true, true, false, false, false, false, true, false, false] rfl rfl (one_of HT_.out (by kernel_rfl)) (by decide) (fun K hK => ?_)
      refine goes_ Try.func126 (by kernel_rfl) rfl #[.pointer (some ⟨rb, 0, none⟩)] (by rfl) rfl rfl (by simp only [List.map_toArray, List.map_cons, List.map_nil]; rfl) ?_
      with_reducible refine (spec_l71Front hS HD.out.rd HQ8.out).mono ?_
      rintro e wq ⟨v2, l, rfl, hr2, hl2, ho2, p2, g0, g1, hrd, hg⟩
      refine ⟨_, rfl, ?_⟩
      have HN := Aside0.mk hr2
      have HGP := Aside0.mk (pp_one g0 g1 (by decide : (31 : Int) ≤ 45))
      replace HY := Aside0.mk (blk_grown HY.out hg (fun e => HYn.out.2.2 (Option.some.inj e)))
      replace HD := Aside0.mk (HD.out.pick hrd hg HFx.out)
      clear hr2 hrd hg
      refine hK.out _ _ ⟨HD.out.x0, HD.out.x1⟩ (fun hHeld => ?_)
      clear hK K
      refine norm_ (a' := ?_) ?_ ?_
      rotate_left
      ·show Act.put _ (some 38) _ = _
       simp only [Act.put, setIfInBounds_toArray, set_cons_zero, set_cons_succ, i64_w]
       rfl
      refine one_ (i := 3) (N := some 39) #[true, true, true, true, false, false, false, true, false, false] rfl rfl (one_of HT_.out (by kernel_rfl)) (by decide) (fun K hK => ?_)
      refine goes_ Try.func23 (by kernel_rfl) rfl #[.agg #[u, v], v2] (by rfl) rfl rfl (by simp only [List.map_toArray, List.map_cons, List.map_nil]; rfl) ?_
      with_reducible refine (spec_SinceH u v v2 ls f l _ HD.out.sp.s (Sl.of_R HN.out) HSB.out (Nat.le_trans hl2 (by decide))).mono ?_
      rintro e wq ⟨a, b, rfl, hr9, hb9⟩
      refine ⟨_, rfl, ?_⟩
      obtain ⟨A9, c9, e9⟩ := Kd.R_slice hr9.1
      subst e9
      obtain ⟨A10, c10, e9⟩ := Kd.R_slice hr9.2
      subst e9
      have HSJ := Aside0.mk (SpT.lower (hr9) HD.out.le)
      replace HY := Aside0.mk (blk_below HY.out hb9)
      replace HD := Aside0.mk (HD.out.below hb9)
      clear hr9 hb9
      refine hK.out _ _ ⟨HD.out.x0, HD.out.x1⟩ (fun hHeld => ?_)
      clear hK K
      refine norm_ (a' := ?_) ?_ ?_
      rotate_left
      ·show Act.put _ (some 39) _ = _
       simp only [Act.put, setIfInBounds_toArray, set_cons_zero, set_cons_succ, i64_w]
       rfl
      refine pure_ (i := 4) (N := some 35) (v := ?_) (a' := ?_) #[true, true, true, true, true, false, false, true, false, false] rfl rfl (any_of HT_.out (by kernel_rfl)) (fun _ _ _ h => h) (Or.inl ⟨by rfl, ?_⟩) ?_ ?_
      rotate_left
      ·intro w'
       go_simp
       with_reducible rfl
      rotate_left
      ·simp only [Act.put, setIfInBounds_toArray, set_cons_zero, set_cons_succ, i64_w]
       rfl
      refine pure_ (i := 5) (N := some 40) (v := ?_) (a' := ?_) #[true, true, true, true, true, true, false, true, false, false] rfl rfl (any_of HT_.out (by kernel_rfl)) (fun _ _ _ h => h) (Or.inl ⟨by rfl, ?_⟩) ?_ ?_
      rotate_left
      ·intro w'
       go_simp
       with_reducible rfl
      rotate_left
      ·simp only [Act.put, setIfInBounds_toArray, set_cons_zero, set_cons_succ, i64_w]
       rfl
      refine pure_ (i := 6) (N := some 41) (v := ?_) (a' := ?_) #[true, true, true, true, true, true, true, true, false, false] rfl rfl (any_of HT_.out (by kernel_rfl)) (fun _ _ _ h => h) (Or.inl ⟨by rfl, ?_⟩) ?_ ?_
      rotate_left
      ·intro w'
       go_simp
       with_reducible rfl
      rotate_left
      ·simp only [Act.put, setIfInBounds_toArray, set_cons_zero, set_cons_succ, i64_w]
       rfl
      exact norm_ (by simp only [Go.Proofs.YtkdendlgaaimbaaW.PrintLast.putAll, Act.put, List.setIfInBounds_toArray, List.set_cons_zero, List.set_cons_succ]) (hCont (v2, l, A9, c9, A10, c10, Y, p2) _ ⟨HD.out.x0, HD.out.x1, hYN, HYn.out, HY.out, HSJ.out, HD.out, ⟨hl2, HGP.out.1, HGP.out.2⟩⟩)
    rintro ⟨v2, l, A9, c9, A10, c10, Y, p2⟩ wc ⟨C0, C1, hYV, hYn, hy, hsj, hds, hG⟩
    dsimp only at hYV hYn hy hsj hds hG
    have HYn := Aside0.mk hYn
    have HG := Aside0.mk hG
    have HY := Aside0.mk hy
    have HSJ := Aside0.mk hsj
    replace HD := Aside0.mk hds
    have y0 := blk_cell hy 0
    have y1 := blk_cell hy 1
    have yf0 := blk_frozen hy 0
    have yf1 := blk_frozen hy 1
    clear hy hsj hds hYn hG
    have hHeld : wc.cell? ⟨X, 0, none⟩ = some u ∧ wc.cell? ⟨X, 1, none⟩ = some v := ⟨C0, C1⟩
    refine norm_ (a' := ?_) ?_ ?_
    rotate_left
    ·simp only [Go.Proofs.YtkdendlgaaimbaaW.PrintLast.putAll, Act.put, List.setIfInBounds_toArray, List.set_cons_zero, List.set_cons_succ]
     rfl
    refine last_ (i := 8) (N := none) #[true, true, true, true, true, true, true, true, true, false] rfl rfl (one_of HT_.out (by kernel_rfl)) (by decide) (fun K hK => ?_)
    refine skip_ (w1 := ?_) (by rfl) rfl ?_ ?_
    rotate_left
    ·go_simp
     rfl
    refine hK.out _ _ ?_
    clear hK K
    refine pure_ (i := 9) (N := some 6) (v := ?_) (a' := ?_) #[true, true, true, true, true, true, true, true, true, true] rfl rfl (any_of HT_.out (by kernel_rfl)) (fun _ _ _ h => h) (Or.inl ⟨by rfl, ?_⟩) ?_ ?_
    rotate_left
    ·intro w'
     go_simp
     with_reducible rfl
    rotate_left
    ·simp only [Act.put, setIfInBounds_toArray, set_cons_zero, set_cons_succ, i64_w]
     rfl
    refine done_ (done_of HT_.out (by kernel_rfl)) ?_
    have hds := DS.set2 HD.out HY.out HYn.out hYV HFx.out (.slice A9 (sinceL ls f l).length c9) (.slice A10 (sinceF ls f l).length c10)
    have hsj := SpT.set2 HSJ.out HY.out (.slice A9 (sinceL ls f l).length c9) (.slice A10 (sinceF ls f l).length c10)
    have hyb := blk2 HY.out (.slice A9 (sinceL ls f l).length c9) (.slice A10 (sinceF ls f l).length c10)
    obtain ⟨wd, hwd⟩ : ∃ wd, wd = (wc.setCell ⟨Y, 0, none⟩ (.slice A9 (sinceL ls f l).length c9)).setCell ⟨Y, 1, none⟩ (.slice A10 (sinceF ls f l).length c10) := ⟨_, rfl⟩
    rw [← hwd] at hds hsj hyb ⊢
    have HI := Aside0.mk (fun h : sinceB ls f l = true => since_F HM.out (Nat.le_trans HG.out.1 (by decide)) h)
    generalize sinceL ls f l = L at hsj HI hyb ⊢
    generalize sinceF ls f l = F at hsj HI hyb ⊢
    generalize sinceB ls f l = B at HI ⊢
    replace HD := Aside0.mk hds
    replace HSJ := Aside0.mk hsj
    replace HY := Aside0.mk hyb
    clear hds hsj hyb hwd hHeld C0 C1 y0 y1 yf0 yf1 HT_ HW_
    clear hHeld
    have HP2 := Aside0.mk HG.out.2
    cases B
    ·go_wp2
     go_roundg m
     case measure => omega
     case rel => exact ⟨m, u, v, ls, f, p2, by go_num, Nat.le_refl _, hl6, hf6, by have := HP2.out; omega, by have := HP2.out; omega, ⟨HM.out.mono (by omega)⟩, HD⟩
    ·have y0 := blk_cell HY.out 0
     have y1 := blk_cell HY.out 1
     have x0 := HD.out.x0
     have x1 := HD.out.x1
     have xf0 := blk_fz HD.out.xb 0
     have xf1 := blk_fz HD.out.xb 1
     obtain ⟨i1, i2, i3⟩ := HI.out rfl
     go_wp2
     go_roundg m
     case measure => omega
     case rel => exact ⟨m, .slice A9 L.length c9, .slice A10 F.length c10, L, F, p2, by go_num, Nat.le_refl _, i2, i3, by have := HP2.out; omega, by have := HP2.out; omega, ⟨i1.mono (by omega)⟩, ⟨HD.out.put HSJ.out HFx.out⟩⟩
   ·have htb : (t == 0) = false := by simp [ht0]
    by_cases ht1 : t = 1
    ·have htb1 : (t == 1) = true := by rw [ht1]; rfl
     clear ht0 ht1 t0 t1
     go_upto_region 14 with fail
     replace HD := Aside0.mk (HD.out.below (below_drew (Below.refl _ _)))
     refine start_ (n := 10) (S := fun w' => w'.cell? ⟨X, 0, none⟩ = some u ∧ w'.cell? ⟨X, 1, none⟩ = some v) (ds := [8]) #[false, false, false, false, false, false, false, false, false, false] (by kernel_rfl) rfl rfl ⟨HD.out.x0, HD.out.x1⟩ (fun hHeld => ?_)
     refine with_tabW tb_spec_l71Spine_14.tab tb_spec_l71Spine_14.bits (fun HT_ HW_ => ?_)
     refine pure_ (i := 1) (N := some 48) (v := ?_) (a' := ?_) #[false, true, false, false, false, false, false, false, false, false] rfl rfl (any_of HT_.out (by kernel_rfl)) (fun _ _ _ h => h) (Or.inl ⟨by rfl, ?_⟩) ?_ ?_
     rotate_left
     ·intro w'
      go_simp
      with_reducible rfl
     rotate_left
     ·simp only [Act.put, setIfInBounds_toArray, set_cons_zero, set_cons_succ, i64_w]
      rfl
     refine take_ (i := 0) (N := some 47) (v := ?_) (a' := ?_) #[true, true, false, false, false, false, false, false, false, false] rfl rfl (take_ofW HT_.out HW_.out (by kernel_rfl)) (fun _ _ _ h => h) (Or.inl ⟨by rfl, ?_⟩) hHeld ?_ ?_
     rotate_left
     ·rintro w' ⟨s0, s1⟩
      go_simp
      with_reducible rfl
     rotate_left
     ·simp only [Act.put, setIfInBounds_toArray, set_cons_zero, set_cons_succ, i64_w]
      rfl
     refine join_ (σ := (Int × Option Addr × Nat × Option Addr × Nat × Nat × Int)) 2 #[true, true, true, true, true, true, true, true, false, false] (fun s => [(49, .int .i64 s.1), (50, .tuple #[.agg #[(.slice s.2.1 (joinL ls f s.1).length s.2.2.1), (.slice s.2.2.2.1 (joinF ls f s.1).length s.2.2.2.2.1)], .bool (joinB ls f s.1)]), (46, .tuple #[.agg #[(.slice s.2.1 (joinL ls f s.1).length s.2.2.1), (.slice s.2.2.2.1 (joinF ls f s.1).length s.2.2.2.2.1)], .bool (joinB ls f s.1)]), (51, .agg #[(.slice s.2.1 (joinL ls f s.1).length s.2.2.1), (.slice s.2.2.2.1 (joinF ls f s.1).length s.2.2.2.2.1)]), (52, .bool (joinB ls f s.1)), (7, .pointer (some ⟨s.2.2.2.2.2.1, 0, none⟩))]) (fun s w' => w'.cell? ⟨X, 0, none⟩ = some u ∧ w'.cell? ⟨X, 1, none⟩ = some v ∧ V.heap.size ≤ s.2.2.2.2.2.1 ∧ (s.2.2.2.2.2.1 ≠ X ∧ s.2.2.2.2.2.1 ≠ T ∧ s.2.2.2.2.2.1 ≠ rb) ∧ w'.heap[s.2.2.2.2.2.1]? = some (.cells #[.slice none 0 0, .slice none 0 0] 26 (0, 0)) ∧ SpT w' V.heap.size okT (.slice s.2.1 (joinL ls f s.1).length s.2.2.1) (.slice s.2.2.2.1 (joinF ls f s.1).length s.2.2.2.2.1) (joinL ls f s.1) (joinF ls f s.1) ∧ DS w0 rb s_ V X T u v ls f s.2.2.2.2.2.2 w' ∧ (p' ≤ s.2.2.2.2.2.2 ∧ s.2.2.2.2.2.2 ≤ p' + 45)) ?_ ?_
     rotate_left
     ·intro hCont
      refine two_ (i := 2) (j := 7) (Ni := some 49) (Nj := some 7) #[true, true, true, false, false, false, false, false, false, false] #[true, true, false, false, false, false, false, true, false, false] rfl rfl rfl rfl (two_of HT_.out (by kernel_rfl)) (by decide) (by decide) (fun K hK => ?_) (fun K hK => ?_)
      ·skip
       refine goes_ Try.func69 (by kernel_rfl) rfl #[.pointer (some ⟨rb, 0, none⟩), .int .i64 4] (by rfl) rfl rfl (by simp only [List.map_toArray, List.map_cons, List.map_nil]; rfl) ?_
       with_reducible refine (spec_pick hS.out HD.out.rd HQ1.out 4 (by decide) (by decide)).mono ?_
       rintro e wq ⟨k, rfl, k0, k1, hrd, hg⟩
       refine ⟨_, rfl, ?_⟩
       replace HD := Aside0.mk (HD.out.pick hrd hg HFx.out)
       clear hrd hg
       refine hK.out _ _ ⟨HD.out.x0, HD.out.x1⟩ (fun hHeld => ?_)
       clear hK K
       refine norm_ (a' := ?_) ?_ ?_
       rotate_left
       ·show Act.put _ (some 49) _ = _
        simp only [Act.put, setIfInBounds_toArray, set_cons_zero, set_cons_succ, i64_w]
        rfl
       refine two_ (i := 3) (j := 7) (Ni := some 50) (Nj := some 7) #[true, true, true, true, false, false, false, false, false, false] #[true, true, true, false, false, false, false, true, false, false] rfl rfl rfl rfl (two_of HT_.out (by kernel_rfl)) (by decide) (by decide) (fun K hK => ?_) (fun K hK => ?_)
       ·skip
        refine goes_ Try.func39 (by kernel_rfl) rfl #[.agg #[u, v], .int .i64 k] (by rfl) rfl rfl (by simp only [List.map_toArray, List.map_cons, List.map_nil]; rfl) ?_
        with_reducible refine (spec_SpineJoin u v ls f k _ HD.out.sp.s HSB.out).mono ?_
        rintro e wq ⟨a, b, rfl, hr9, hb9⟩
        refine ⟨_, rfl, ?_⟩
        obtain ⟨A9, c9, e9⟩ := Kd.R_slice hr9.1
        subst e9
        obtain ⟨A10, c10, e9⟩ := Kd.R_slice hr9.2
        subst e9
        have HSJ := Aside0.mk (SpT.lower (hr9) HD.out.le)
        replace HD := Aside0.mk (HD.out.below hb9)
        clear hr9 hb9
        refine hK.out _ _ ⟨HD.out.x0, HD.out.x1⟩ (fun hHeld => ?_)
        clear hK K
        refine norm_ (a' := ?_) ?_ ?_
        rotate_left
        ·show Act.put _ (some 50) _ = _
         simp only [Act.put, setIfInBounds_toArray, set_cons_zero, set_cons_succ, i64_w]
         rfl
        refine pure_ (i := 4) (N := some 46) (v := ?_) (a' := ?_) #[true, true, true, true, true, false, false, false, false, false] rfl rfl (any_of HT_.out (by kernel_rfl)) (fun _ _ _ h => h) (Or.inl ⟨by rfl, ?_⟩) ?_ ?_
        rotate_left
        ·intro w'
         go_simp
         with_reducible rfl
        rotate_left
        ·simp only [Act.put, setIfInBounds_toArray, set_cons_zero, set_cons_succ, i64_w]
         rfl
        refine pure_ (i := 5) (N := some 51) (v := ?_) (a' := ?_) #[true, true, true, true, true, true, false, false, false, false] rfl rfl (any_of HT_.out (by kernel_rfl)) (fun _ _ _ h => h) (Or.inl ⟨by rfl, ?_⟩) ?_ ?_
        rotate_left
        ·intro w'
         go_simp
         with_reducible rfl
        rotate_left
        ·simp only [Act.put, setIfInBounds_toArray, set_cons_zero, set_cons_succ, i64_w]
         rfl
        refine pure_ (i := 6) (N := some 52) (v := ?_) (a' := ?_) #[true, true, true, true, true, true, true, false, false, false] rfl rfl (any_of HT_.out (by kernel_rfl)) (fun _ _ _ h => h) (Or.inl ⟨by rfl, ?_⟩) ?_ ?_
        rotate_left
        ·intro w'
         go_simp
         with_reducible rfl
        rotate_left
        ·simp only [Act.put, setIfInBounds_toArray, set_cons_zero, set_cons_succ, i64_w]
         rfl
        refine one_ (i := 7) (N := some 7) #[true, true, true, true, true, true, true, true, false, false] rfl rfl (one_of HT_.out (by kernel_rfl)) (by decide) (fun K hK => ?_)
        refine box_step ?hb9 (N := 7) ?hd9 (cs := #[.slice none 0 0, .slice none 0 0]) (t := 26) ?hr9 ?_; (case hd9 => rfl); (case hb9 => rfl); (case hr9 => first|(go_simp; done)|(go_simp; rfl))
        intro Y hYe wq hy hby
        have HY := Aside0.mk hy
        have hYN : V.heap.size ≤ Y := by rw [hYe]; exact HD.out.le
        have HYn : Aside0 (Y ≠ X ∧ Y ≠ T ∧ Y ≠ rb) := ⟨by rw [hYe]; exact HD.out.fresh⟩
        replace HSJ := Aside0.mk (SpT.below HSJ.out hby)
        replace HD := Aside0.mk (HD.out.below hby)
        clear hy hYe hby
        refine hK.out _ _ ⟨HD.out.x0, HD.out.x1⟩ (fun hHeld => ?_)
        clear hK K
        refine norm_ (a' := ?_) ?_ ?_
        rotate_left
        ·show Act.put _ (some 7) _ = _
         simp only [Act.put, setIfInBounds_toArray, set_cons_zero, set_cons_succ, i64_w]
         rfl
        exact norm_ (by simp only [Go.Proofs.YtkdendlgaaimbaaW.PrintLast.putAll, Act.put, List.setIfInBounds_toArray, List.set_cons_zero, List.set_cons_succ]) (hCont (k, A9, c9, A10, c10, Y, p' + 1) _ ⟨HD.out.x0, HD.out.x1, hYN, HYn.out, HY.out, HSJ.out, HD.out, HJ1.out⟩)
       ·skip
        refine box_step ?hb9 (N := 7) ?hd9 (cs := #[.slice none 0 0, .slice none 0 0]) (t := 26) ?hr9 ?_; (case hd9 => rfl); (case hb9 => rfl); (case hr9 => first|(go_simp; done)|(go_simp; rfl))
        intro Y hYe wq hy hby
        have HY := Aside0.mk hy
        have hYN : V.heap.size ≤ Y := by rw [hYe]; exact HD.out.le
        have HYn : Aside0 (Y ≠ X ∧ Y ≠ T ∧ Y ≠ rb) := ⟨by rw [hYe]; exact HD.out.fresh⟩
        replace HD := Aside0.mk (HD.out.below hby)
        clear hy hYe hby
        refine hK.out _ _ ⟨HD.out.x0, HD.out.x1⟩ (fun hHeld => ?_)
        clear hK K
        refine norm_ (a' := ?_) ?_ ?_
        rotate_left
        ·show Act.put _ (some 7) _ = _
         simp only [Act.put, setIfInBounds_toArray, set_cons_zero, set_cons_succ, i64_w]
         rfl
        refine one_ (i := 3) (N := some 50) #[true, true, true, true, false, false, false, true, false, false] rfl rfl (one_of HT_.out (by kernel_rfl)) (by decide) (fun K hK => ?_)
        refine goes_ Try.func39 (by kernel_rfl) rfl #[.agg #[u, v], .int .i64 k] (by rfl) rfl rfl (by simp only [List.map_toArray, List.map_cons, List.map_nil]; rfl) ?_
        with_reducible refine (spec_SpineJoin u v ls f k _ HD.out.sp.s HSB.out).mono ?_
        rintro e wq ⟨a, b, rfl, hr9, hb9⟩
        refine ⟨_, rfl, ?_⟩
        obtain ⟨A9, c9, e9⟩ := Kd.R_slice hr9.1
        subst e9
        obtain ⟨A10, c10, e9⟩ := Kd.R_slice hr9.2
        subst e9
        have HSJ := Aside0.mk (SpT.lower (hr9) HD.out.le)
        replace HY := Aside0.mk (blk_below HY.out hb9)
        replace HD := Aside0.mk (HD.out.below hb9)
        clear hr9 hb9
        refine hK.out _ _ ⟨HD.out.x0, HD.out.x1⟩ (fun hHeld => ?_)
        clear hK K
        refine norm_ (a' := ?_) ?_ ?_
        rotate_left
        ·show Act.put _ (some 50) _ = _
         simp only [Act.put, setIfInBounds_toArray, set_cons_zero, set_cons_succ, i64_w]
         rfl
        refine pure_ (i := 4) (N := some 46) (v := ?_) (a' := ?_) #[true, true, true, true, true, false, false, true, false, false] rfl rfl (any_of HT_.out (by kernel_rfl)) (fun _ _ _ h => h) (Or.inl ⟨by rfl, ?_⟩) ?_ ?_
        rotate_left
        ·intro w'
         go_simp
         with_reducible rfl
        rotate_left
        ·simp only [Act.put, setIfInBounds_toArray, set_cons_zero, set_cons_succ, i64_w]
         rfl
        refine pure_ (i := 5) (N := some 51) (v := ?_) (a' := ?_) #[true, true, true, true, true, true, false, true, false, false] rfl rfl (any_of HT_.out (by kernel_rfl)) (fun _ _ _ h => h) (Or.inl ⟨by rfl, ?_⟩) ?_ ?_
        rotate_left
        ·intro w'
         go_simp
         with_reducible rfl
        rotate_left
        ·simp only [Act.put, setIfInBounds_toArray, set_cons_zero, set_cons_succ, i64_w]
         rfl
        refine pure_ (i := 6) (N := some 52) (v := ?_) (a' := ?_) #[true, true, true, true, true, true, true, true, false, false] rfl rfl (any_of HT_.out (by kernel_rfl)) (fun _ _ _ h => h) (Or.inl ⟨by rfl, ?_⟩) ?_ ?_
        rotate_left
        ·intro w'
         go_simp
         with_reducible rfl
        rotate_left
        ·simp only [Act.put, setIfInBounds_toArray, set_cons_zero, set_cons_succ, i64_w]
         rfl
        exact norm_ (by simp only [Go.Proofs.YtkdendlgaaimbaaW.PrintLast.putAll, Act.put, List.setIfInBounds_toArray, List.set_cons_zero, List.set_cons_succ]) (hCont (k, A9, c9, A10, c10, Y, p' + 1) _ ⟨HD.out.x0, HD.out.x1, hYN, HYn.out, HY.out, HSJ.out, HD.out, HJ1.out⟩)
      ·skip
       refine box_step ?hb9 (N := 7) ?hd9 (cs := #[.slice none 0 0, .slice none 0 0]) (t := 26) ?hr9 ?_; (case hd9 => rfl); (case hb9 => rfl); (case hr9 => first|(go_simp; done)|(go_simp; rfl))
       intro Y hYe wq hy hby
       have HY := Aside0.mk hy
       have hYN : V.heap.size ≤ Y := by rw [hYe]; exact HD.out.le
       have HYn : Aside0 (Y ≠ X ∧ Y ≠ T ∧ Y ≠ rb) := ⟨by rw [hYe]; exact HD.out.fresh⟩
       replace HD := Aside0.mk (HD.out.below hby)
       clear hy hYe hby
       refine hK.out _ _ ⟨HD.out.x0, HD.out.x1⟩ (fun hHeld => ?_)
       clear hK K
       refine norm_ (a' := ?_) ?_ ?_
       rotate_left
       ·show Act.put _ (some 7) _ = _
        simp only [Act.put, setIfInBounds_toArray, set_cons_zero, set_cons_succ, i64_w]
        rfl
       refine one_ (i := 2) (N := some 49) #[true, true, true, false, false, false, false, true, false, false] rfl rfl (one_of HT_.out (by kernel_rfl)) (by decide) (fun K hK => ?_)
       refine goes_ Try.func69 (by kernel_rfl) rfl #[.pointer (some ⟨rb, 0, none⟩), .int .i64 4] (by rfl) rfl rfl (by simp only [List.map_toArray, List.map_cons, List.map_nil]; rfl) ?_
       with_reducible refine (spec_pick hS.out HD.out.rd HQ1.out 4 (by decide) (by decide)).mono ?_
       rintro e wq ⟨k, rfl, k0, k1, hrd, hg⟩
       refine ⟨_, rfl, ?_⟩
       replace HY := Aside0.mk (blk_grown HY.out hg (fun e => HYn.out.2.2 (Option.some.inj e)))
       replace HD := Aside0.mk (HD.out.pick hrd hg HFx.out)
       clear hrd hg
       refine hK.out _ _ ⟨HD.out.x0, HD.out.x1⟩ (fun hHeld => ?_)
       clear hK K
       refine norm_ (a' := ?_) ?_ ?_
       rotate_left
       ·show Act.put _ (some 49) _ = _
        simp only [Act.put, setIfInBounds_toArray, set_cons_zero, set_cons_succ, i64_w]
        rfl
       refine one_ (i := 3) (N := some 50) #[true, true, true, true, false, false, false, true, false, false] rfl rfl (one_of HT_.out (by kernel_rfl)) (by decide) (fun K hK => ?_)
       refine goes_ Try.func39 (by kernel_rfl) rfl #[.agg #[u, v], .int .i64 k] (by rfl) rfl rfl (by simp only [List.map_toArray, List.map_cons, List.map_nil]; rfl) ?_
       with_reducible refine (spec_SpineJoin u v ls f k _ HD.out.sp.s HSB.out).mono ?_
       rintro e wq ⟨a, b, rfl, hr9, hb9⟩
       refine ⟨_, rfl, ?_⟩
       obtain ⟨A9, c9, e9⟩ := Kd.R_slice hr9.1
       subst e9
       obtain ⟨A10, c10, e9⟩ := Kd.R_slice hr9.2
       subst e9
       have HSJ := Aside0.mk (SpT.lower (hr9) HD.out.le)
       replace HY := Aside0.mk (blk_below HY.out hb9)
       replace HD := Aside0.mk (HD.out.below hb9)
       clear hr9 hb9
       refine hK.out _ _ ⟨HD.out.x0, HD.out.x1⟩ (fun hHeld => ?_)
       clear hK K
       refine norm_ (a' := ?_) ?_ ?_
       rotate_left
       ·show Act.put _ (some 50) _ = _
        simp only [Act.put, setIfInBounds_toArray, set_cons_zero, set_cons_succ, i64_w]
        rfl
       refine pure_ (i := 4) (N := some 46) (v := ?_) (a' := ?_) #[true, true, true, true, true, false, false, true, false, false] rfl rfl (any_of HT_.out (by kernel_rfl)) (fun _ _ _ h => h) (Or.inl ⟨by rfl, ?_⟩) ?_ ?_
       rotate_left
       ·intro w'
        go_simp
        with_reducible rfl
       rotate_left
       ·simp only [Act.put, setIfInBounds_toArray, set_cons_zero, set_cons_succ, i64_w]
        rfl
       refine pure_ (i := 5) (N := some 51) (v := ?_) (a' := ?_) #[true, true, true, true, true, true, false, true, false, false] rfl rfl (any_of HT_.out (by kernel_rfl)) (fun _ _ _ h => h) (Or.inl ⟨by rfl, ?_⟩) ?_ ?_
       rotate_left
       ·intro w'
        go_simp
        with_reducible rfl
       rotate_left
       ·simp only [Act.put, setIfInBounds_toArray, set_cons_zero, set_cons_succ, i64_w]
        rfl
       refine pure_ (i := 6) (N := some 52) (v := ?_) (a' := ?_) #[true, true, true, true, true, true, true, true, false, false] rfl rfl (any_of HT_.out (by kernel_rfl)) (fun _ _ _ h => h) (Or.inl ⟨by rfl, ?_⟩) ?_ ?_
       rotate_left
       ·intro w'
        go_simp
        with_reducible rfl
       rotate_left
       ·simp only [Act.put, setIfInBounds_toArray, set_cons_zero, set_cons_succ, i64_w]
        rfl
       exact norm_ (by simp only [Go.Proofs.YtkdendlgaaimbaaW.PrintLast.putAll, Act.put, List.setIfInBounds_toArray, List.set_cons_zero, List.set_cons_succ]) (hCont (k, A9, c9, A10, c10, Y, p' + 1) _ ⟨HD.out.x0, HD.out.x1, hYN, HYn.out, HY.out, HSJ.out, HD.out, HJ1.out⟩)
     rintro ⟨k, A9, c9, A10, c10, Y, p2⟩ wc ⟨C0, C1, hYV, hYn, hy, hsj, hds, hG⟩
     dsimp only at hYV hYn hy hsj hds hG
     have HYn := Aside0.mk hYn
     have HG := Aside0.mk hG
     have HY := Aside0.mk hy
     have HSJ := Aside0.mk hsj
     replace HD := Aside0.mk hds
     have y0 := blk_cell hy 0
     have y1 := blk_cell hy 1
     have yf0 := blk_frozen hy 0
     have yf1 := blk_frozen hy 1
     clear hy hsj hds hYn hG
     have hHeld : wc.cell? ⟨X, 0, none⟩ = some u ∧ wc.cell? ⟨X, 1, none⟩ = some v := ⟨C0, C1⟩
     refine norm_ (a' := ?_) ?_ ?_
     rotate_left
     ·simp only [Go.Proofs.YtkdendlgaaimbaaW.PrintLast.putAll, Act.put, List.setIfInBounds_toArray, List.set_cons_zero, List.set_cons_succ]
      rfl
     refine last_ (i := 8) (N := none) #[true, true, true, true, true, true, true, true, true, false] rfl rfl (one_of HT_.out (by kernel_rfl)) (by decide) (fun K hK => ?_)
     refine skip_ (w1 := ?_) (by rfl) rfl ?_ ?_
     rotate_left
     ·go_simp
      rfl
     refine hK.out _ _ ?_
     clear hK K
     refine pure_ (i := 9) (N := some 8) (v := ?_) (a' := ?_) #[true, true, true, true, true, true, true, true, true, true] rfl rfl (any_of HT_.out (by kernel_rfl)) (fun _ _ _ h => h) (Or.inl ⟨by rfl, ?_⟩) ?_ ?_
     rotate_left
     ·intro w'
      go_simp
      with_reducible rfl
     rotate_left
     ·simp only [Act.put, setIfInBounds_toArray, set_cons_zero, set_cons_succ, i64_w]
      rfl
     refine done_ (done_of HT_.out (by kernel_rfl)) ?_
     have hds := DS.set2 HD.out HY.out HYn.out hYV HFx.out (.slice A9 (joinL ls f k).length c9) (.slice A10 (joinF ls f k).length c10)
     have hsj := SpT.set2 HSJ.out HY.out (.slice A9 (joinL ls f k).length c9) (.slice A10 (joinF ls f k).length c10)
     have hyb := blk2 HY.out (.slice A9 (joinL ls f k).length c9) (.slice A10 (joinF ls f k).length c10)
     obtain ⟨wd, hwd⟩ : ∃ wd, wd = (wc.setCell ⟨Y, 0, none⟩ (.slice A9 (joinL ls f k).length c9)).setCell ⟨Y, 1, none⟩ (.slice A10 (joinF ls f k).length c10) := ⟨_, rfl⟩
     rw [← hwd] at hds hsj hyb ⊢
     have HI := Aside0.mk (fun h : joinB ls f k = true => join_F HM.out MB.out hf6 h)
     generalize joinL ls f k = L at hsj HI hyb ⊢
     generalize joinF ls f k = F at hsj HI hyb ⊢
     generalize joinB ls f k = B at HI ⊢
     replace HD := Aside0.mk hds
     replace HSJ := Aside0.mk hsj
     replace HY := Aside0.mk hyb
     clear hds hsj hyb hwd hHeld C0 C1 y0 y1 yf0 yf1 HT_ HW_
     clear hHeld
     have HP2 := Aside0.mk HG.out
     cases B
     ·go_wp2
      go_roundg m
      case measure => omega
      case rel => exact ⟨m, u, v, ls, f, p2, by go_num, Nat.le_refl _, hl6, hf6, by have := HP2.out; omega, by have := HP2.out; omega, ⟨HM.out.mono (by omega)⟩, HD⟩
     ·have y0 := blk_cell HY.out 0
      have y1 := blk_cell HY.out 1
      have x0 := HD.out.x0
      have x1 := HD.out.x1
      have xf0 := blk_fz HD.out.xb 0
      have xf1 := blk_fz HD.out.xb 1
      obtain ⟨i1, i2, i3⟩ := HI.out rfl
      go_wp2
      go_roundg m
      case measure => omega
      case rel => exact ⟨m, .slice A9 L.length c9, .slice A10 F.length c10, L, F, p2, by go_num, Nat.le_refl _, i2, i3, by have := HP2.out; omega, by have := HP2.out; omega, ⟨i1.mono (by omega)⟩, ⟨HD.out.put HSJ.out HFx.out⟩⟩
    ·have htb1 : (t == 1) = false := by simp [ht1]
     clear ht0 ht1 t0 t1
     go_upto_region 6 with fail
     replace HD := Aside0.mk (HD.out.below (below_drew (Below.refl _ _)))
     refine start_ (n := 14) (S := fun w' => w'.cell? ⟨X, 0, none⟩ = some u ∧ w'.cell? ⟨X, 1, none⟩ = some v) (ds := [12]) #[false, false, false, false, false, false, false, false, false, false, false, false, false, false] (by kernel_rfl) rfl rfl ⟨HD.out.x0, HD.out.x1⟩ (fun hHeld => ?_)
     refine with_tabW tb_spec_l71Spine_6.tab tb_spec_l71Spine_6.bits (fun HT_ HW_ => ?_)
     refine pure_ (i := 1) (N := some 22) (v := ?_) (a' := ?_) #[false, true, false, false, false, false, false, false, false, false, false, false, false, false] rfl rfl (any_of HT_.out (by kernel_rfl)) (fun _ _ _ h => h) (Or.inl ⟨by rfl, ?_⟩) ?_ ?_
     rotate_left
     ·intro w'
      go_simp
      with_reducible rfl
     rotate_left
     ·simp only [Act.put, setIfInBounds_toArray, set_cons_zero, set_cons_succ, i64_w]
      rfl
     refine pure_ (i := 2) (N := some 23) (v := ?_) (a' := ?_) #[false, true, true, false, false, false, false, false, false, false, false, false, false, false] rfl rfl (any_of HT_.out (by kernel_rfl)) (fun _ _ _ h => h) (Or.inl ⟨by rfl, ?_⟩) ?_ ?_
     rotate_left
     ·intro w'
      go_simp
      with_reducible rfl
     rotate_left
     ·simp only [Act.put, setIfInBounds_toArray, set_cons_zero, set_cons_succ, i64_w]
      rfl
     refine pure_ (i := 4) (N := some 25) (v := ?_) (a' := ?_) #[false, true, true, false, true, false, false, false, false, false, false, false, false, false] rfl rfl (any_of HT_.out (by kernel_rfl)) (fun _ _ _ h => h) (Or.inl ⟨by rfl, ?_⟩) ?_ ?_
     rotate_left
     ·intro w'
      go_simp
      with_reducible rfl
     rotate_left
     ·simp only [Act.put, setIfInBounds_toArray, set_cons_zero, set_cons_succ, i64_w]
      rfl
     refine take_ (i := 0) (N := some 21) (v := ?_) (a' := ?_) #[true, true, true, false, true, false, false, false, false, false, false, false, false, false] rfl rfl (take_ofW HT_.out HW_.out (by kernel_rfl)) (fun _ _ _ h => h) (Or.inl ⟨by rfl, ?_⟩) hHeld ?_ ?_
     rotate_left
     ·rintro w' ⟨s0, s1⟩
      go_simp
      with_reducible rfl
     rotate_left
     ·simp only [Act.put, setIfInBounds_toArray, set_cons_zero, set_cons_succ, i64_w]
      rfl
     refine take_ (i := 5) (N := some 26) (v := ?_) (a' := ?_) #[true, true, true, false, true, true, false, false, false, false, false, false, false, false] rfl rfl (take_ofW HT_.out HW_.out (by kernel_rfl)) (fun _ _ _ h => h) (Or.inl ⟨by rfl, ?_⟩) hHeld ?_ ?_
     rotate_left
     ·rintro w' ⟨s0, s1⟩
      go_simp
      with_reducible rfl
     rotate_left
     ·simp only [Act.put, setIfInBounds_toArray, set_cons_zero, set_cons_succ, i64_w]
      rfl
     refine join_ (σ := (Value × List Rw × Value × List Rw × Option Addr × Nat × Option Addr × Nat × Nat × Int)) 2 #[true, true, true, true, true, true, true, true, true, true, true, true, false, false] (fun s => [(24, s.1), (27, s.2.2.1), (28, .tuple #[.agg #[(.slice s.2.2.2.2.1 (inL ls f s.2.2.2.1).length s.2.2.2.2.2.1), (.slice s.2.2.2.2.2.2.1 (inF ls f s.2.2.2.1).length s.2.2.2.2.2.2.2.1)], .bool (inB ls f s.2.2.2.1)]), (20, .tuple #[.agg #[(.slice s.2.2.2.2.1 (inL ls f s.2.2.2.1).length s.2.2.2.2.2.1), (.slice s.2.2.2.2.2.2.1 (inF ls f s.2.2.2.1).length s.2.2.2.2.2.2.2.1)], .bool (inB ls f s.2.2.2.1)]), (29, .agg #[(.slice s.2.2.2.2.1 (inL ls f s.2.2.2.1).length s.2.2.2.2.2.1), (.slice s.2.2.2.2.2.2.1 (inF ls f s.2.2.2.1).length s.2.2.2.2.2.2.2.1)]), (30, .bool (inB ls f s.2.2.2.1)), (9, .pointer (some ⟨s.2.2.2.2.2.2.2.2.1, 0, none⟩))]) (fun s w' => w'.cell? ⟨X, 0, none⟩ = some u ∧ w'.cell? ⟨X, 1, none⟩ = some v ∧ V.heap.size ≤ s.2.2.2.2.2.2.2.2.1 ∧ (s.2.2.2.2.2.2.2.2.1 ≠ X ∧ s.2.2.2.2.2.2.2.2.1 ≠ T ∧ s.2.2.2.2.2.2.2.2.1 ≠ rb) ∧ w'.heap[s.2.2.2.2.2.2.2.2.1]? = some (.cells #[.slice none 0 0, .slice none 0 0] 26 (0, 0)) ∧ SpT w' V.heap.size okT (.slice s.2.2.2.2.1 (inL ls f s.2.2.2.1).length s.2.2.2.2.2.1) (.slice s.2.2.2.2.2.2.1 (inF ls f s.2.2.2.1).length s.2.2.2.2.2.2.2.1) (inL ls f s.2.2.2.1) (inF ls f s.2.2.2.1) ∧ DS w0 rb s_ V X T u v ls f s.2.2.2.2.2.2.2.2.2 w' ∧ (BatD 4 s.2.2.2.1 ∧ p' ≤ s.2.2.2.2.2.2.2.2.2 ∧ s.2.2.2.2.2.2.2.2.2 ≤ p' + 45)) ?_ ?_
     rotate_left
     ·intro hCont
      refine two_ (i := 3) (j := 11) (Ni := some 24) (Nj := some 9) #[true, true, true, true, true, true, false, false, false, false, false, false, false, false] #[true, true, true, false, true, true, false, false, false, false, false, true, false, false] rfl rfl rfl rfl (two_of HT_.out (by kernel_rfl)) (by decide) (by decide) (fun K hK => ?_) (fun K hK => ?_)
      ·skip
       refine goes_ Try.func71 (by kernel_rfl) rfl #[.pointer (some ⟨rb, 0, none⟩), .int .i64 4] (by rfl) rfl rfl (by simp only [List.map_toArray, List.map_cons, List.map_nil]; rfl) ?_
       with_reducible refine (CB.out _ _ HD.out.rd HQ6.out).mono ?_
       rintro e wq ⟨vb, bb, rfl, hr2, hd2, p2, g0, g1, hrd, hg⟩
       refine ⟨_, rfl, ?_⟩
       have HN := Aside0.mk hr2
       have HDB := Aside0.mk hd2
       replace HD := Aside0.mk (HD.out.pick hrd hg HFx.out)
       clear hr2 hd2 hrd hg
       refine hK.out _ _ ⟨HD.out.x0, HD.out.x1⟩ (fun hHeld => ?_)
       clear hK K
       refine norm_ (a' := ?_) ?_ ?_
       rotate_left
       ·show Act.put _ (some 24) _ = _
        simp only [Act.put, setIfInBounds_toArray, set_cons_zero, set_cons_succ, i64_w]
        rfl
       refine two_ (i := 6) (j := 11) (Ni := some 27) (Nj := some 9) #[true, true, true, true, true, true, true, false, false, false, false, false, false, false] #[true, true, true, true, true, true, false, false, false, false, false, true, false, false] rfl rfl rfl rfl (two_of HT_.out (by kernel_rfl)) (by decide) (by decide) (fun K hK => ?_) (fun K hK => ?_)
       ·skip
        refine goes_ Try.func70 (by kernel_rfl) rfl #[.pointer (some ⟨rb, 0, none⟩), vb, v] (by rfl) rfl rfl (by simp only [List.map_toArray, List.map_cons, List.map_nil]; rfl) ?_
        with_reducible refine (spec_l71Behind hS HD.out.rd (HQ.out _ g1) vb v bb f HN.out HD.out.sv HDB.out (by decide) HFL.out).mono ?_
        rintro e wq ⟨vc, cb, rfl, hr3, hd3, p3, g2, g3, hrd, hg⟩
        refine ⟨_, rfl, ?_⟩
        have HN2 := Aside0.mk hr3
        have HDC := Aside0.mk hd3
        have HCL := Aside0.mk (Nat.le_trans hd3.2.1 (by decide) : cb.length ≤ 1048576)
        have HGP := Aside0.mk (pp_two g0 g1 g2 g3 (by decide))
        replace HD := Aside0.mk (HD.out.pick hrd hg HFx.out)
        clear hr3 hd3 hrd hg HN HDB
        refine hK.out _ _ ⟨HD.out.x0, HD.out.x1⟩ (fun hHeld => ?_)
        clear hK K
        refine norm_ (a' := ?_) ?_ ?_
        rotate_left
        ·show Act.put _ (some 27) _ = _
         simp only [Act.put, setIfInBounds_toArray, set_cons_zero, set_cons_succ, i64_w]
         rfl
        refine two_ (i := 7) (j := 11) (Ni := some 28) (Nj := some 9) #[true, true, true, true, true, true, true, true, false, false, false, false, false, false] #[true, true, true, true, true, true, true, false, false, false, false, true, false, false] rfl rfl rfl rfl (two_of HT_.out (by kernel_rfl)) (by decide) (by decide) (fun K hK => ?_) (fun K hK => ?_)
        ·skip
         refine goes_ Try.func19 (by kernel_rfl) rfl #[.agg #[u, v], vc] (by rfl) rfl rfl (by simp only [List.map_toArray, List.map_cons, List.map_nil]; rfl) ?_
         with_reducible refine (spec_SpineIn u v vc ls f cb _ HD.out.sp.s (Sl.of_R HN2.out) HSB.out HCL.out).mono ?_
         rintro e wq ⟨a, b, rfl, hr9, hb9⟩
         refine ⟨_, rfl, ?_⟩
         obtain ⟨A9, c9, e9⟩ := Kd.R_slice hr9.1
         subst e9
         obtain ⟨A10, c10, e9⟩ := Kd.R_slice hr9.2
         subst e9
         have HSJ := Aside0.mk (SpT.lower (hr9) HD.out.le)
         replace HD := Aside0.mk (HD.out.below hb9)
         clear hr9 hb9
         refine hK.out _ _ ⟨HD.out.x0, HD.out.x1⟩ (fun hHeld => ?_)
         clear hK K
         refine norm_ (a' := ?_) ?_ ?_
         rotate_left
         ·show Act.put _ (some 28) _ = _
          simp only [Act.put, setIfInBounds_toArray, set_cons_zero, set_cons_succ, i64_w]
          rfl
         refine pure_ (i := 8) (N := some 20) (v := ?_) (a' := ?_) #[true, true, true, true, true, true, true, true, true, false, false, false, false, false] rfl rfl (any_of HT_.out (by kernel_rfl)) (fun _ _ _ h => h) (Or.inl ⟨by rfl, ?_⟩) ?_ ?_
         rotate_left
         ·intro w'
          go_simp
          with_reducible rfl
         rotate_left
         ·simp only [Act.put, setIfInBounds_toArray, set_cons_zero, set_cons_succ, i64_w]
          rfl
         refine pure_ (i := 9) (N := some 29) (v := ?_) (a' := ?_) #[true, true, true, true, true, true, true, true, true, true, false, false, false, false] rfl rfl (any_of HT_.out (by kernel_rfl)) (fun _ _ _ h => h) (Or.inl ⟨by rfl, ?_⟩) ?_ ?_
         rotate_left
         ·intro w'
          go_simp
          with_reducible rfl
         rotate_left
         ·simp only [Act.put, setIfInBounds_toArray, set_cons_zero, set_cons_succ, i64_w]
          rfl
         refine pure_ (i := 10) (N := some 30) (v := ?_) (a' := ?_) #[true, true, true, true, true, true, true, true, true, true, true, false, false, false] rfl rfl (any_of HT_.out (by kernel_rfl)) (fun _ _ _ h => h) (Or.inl ⟨by rfl, ?_⟩) ?_ ?_
         rotate_left
         ·intro w'
          go_simp
          with_reducible rfl
         rotate_left
         ·simp only [Act.put, setIfInBounds_toArray, set_cons_zero, set_cons_succ, i64_w]
          rfl
         refine one_ (i := 11) (N := some 9) #[true, true, true, true, true, true, true, true, true, true, true, true, false, false] rfl rfl (one_of HT_.out (by kernel_rfl)) (by decide) (fun K hK => ?_)
         refine box_step ?hb9 (N := 9) ?hd9 (cs := #[.slice none 0 0, .slice none 0 0]) (t := 26) ?hr9 ?_; (case hd9 => rfl); (case hb9 => rfl); (case hr9 => first|(go_simp; done)|(go_simp; rfl))
         intro Y hYe wq hy hby
         have HY := Aside0.mk hy
         have hYN : V.heap.size ≤ Y := by rw [hYe]; exact HD.out.le
         have HYn : Aside0 (Y ≠ X ∧ Y ≠ T ∧ Y ≠ rb) := ⟨by rw [hYe]; exact HD.out.fresh⟩
         replace HSJ := Aside0.mk (SpT.below HSJ.out hby)
         replace HD := Aside0.mk (HD.out.below hby)
         clear hy hYe hby
         refine hK.out _ _ ⟨HD.out.x0, HD.out.x1⟩ (fun hHeld => ?_)
         clear hK K
         refine norm_ (a' := ?_) ?_ ?_
         rotate_left
         ·show Act.put _ (some 9) _ = _
          simp only [Act.put, setIfInBounds_toArray, set_cons_zero, set_cons_succ, i64_w]
          rfl
         exact norm_ (by simp only [Go.Proofs.YtkdendlgaaimbaaW.PrintLast.putAll, Act.put, List.setIfInBounds_toArray, List.set_cons_zero, List.set_cons_succ]) (hCont (vb, bb, vc, cb, A9, c9, A10, c10, Y, p3) _ ⟨HD.out.x0, HD.out.x1, hYN, HYn.out, HY.out, HSJ.out, HD.out, ⟨HDC.out, HGP.out.1, HGP.out.2⟩⟩)
        ·skip
         refine box_step ?hb9 (N := 9) ?hd9 (cs := #[.slice none 0 0, .slice none 0 0]) (t := 26) ?hr9 ?_; (case hd9 => rfl); (case hb9 => rfl); (case hr9 => first|(go_simp; done)|(go_simp; rfl))
         intro Y hYe wq hy hby
         have HY := Aside0.mk hy
         have hYN : V.heap.size ≤ Y := by rw [hYe]; exact HD.out.le
         have HYn : Aside0 (Y ≠ X ∧ Y ≠ T ∧ Y ≠ rb) := ⟨by rw [hYe]; exact HD.out.fresh⟩
         replace HN2 := Aside0.mk (Kd.R_below HN2.out hby)
         replace HD := Aside0.mk (HD.out.below hby)
         clear hy hYe hby
         refine hK.out _ _ ⟨HD.out.x0, HD.out.x1⟩ (fun hHeld => ?_)
         clear hK K
         refine norm_ (a' := ?_) ?_ ?_
         rotate_left
         ·show Act.put _ (some 9) _ = _
          simp only [Act.put, setIfInBounds_toArray, set_cons_zero, set_cons_succ, i64_w]
          rfl
         refine one_ (i := 7) (N := some 28) #[true, true, true, true, true, true, true, true, false, false, false, true, false, false] rfl rfl (one_of HT_.out (by kernel_rfl)) (by decide) (fun K hK => ?_)
         refine goes_ Try.func19 (by kernel_rfl) rfl #[.agg #[u, v], vc] (by rfl) rfl rfl (by simp only [List.map_toArray, List.map_cons, List.map_nil]; rfl) ?_
         with_reducible refine (spec_SpineIn u v vc ls f cb _ HD.out.sp.s (Sl.of_R HN2.out) HSB.out HCL.out).mono ?_
         rintro e wq ⟨a, b, rfl, hr9, hb9⟩
         refine ⟨_, rfl, ?_⟩
         obtain ⟨A9, c9, e9⟩ := Kd.R_slice hr9.1
         subst e9
         obtain ⟨A10, c10, e9⟩ := Kd.R_slice hr9.2
         subst e9
         have HSJ := Aside0.mk (SpT.lower (hr9) HD.out.le)
         replace HY := Aside0.mk (blk_below HY.out hb9)
         replace HD := Aside0.mk (HD.out.below hb9)
         clear hr9 hb9
         refine hK.out _ _ ⟨HD.out.x0, HD.out.x1⟩ (fun hHeld => ?_)
         clear hK K
         refine norm_ (a' := ?_) ?_ ?_
         rotate_left
         ·show Act.put _ (some 28) _ = _
          simp only [Act.put, setIfInBounds_toArray, set_cons_zero, set_cons_succ, i64_w]
          rfl
         refine pure_ (i := 8) (N := some 20) (v := ?_) (a' := ?_) #[true, true, true, true, true, true, true, true, true, false, false, true, false, false] rfl rfl (any_of HT_.out (by kernel_rfl)) (fun _ _ _ h => h) (Or.inl ⟨by rfl, ?_⟩) ?_ ?_
         rotate_left
         ·intro w'
          go_simp
          with_reducible rfl
         rotate_left
         ·simp only [Act.put, setIfInBounds_toArray, set_cons_zero, set_cons_succ, i64_w]
          rfl
         refine pure_ (i := 9) (N := some 29) (v := ?_) (a' := ?_) #[true, true, true, true, true, true, true, true, true, true, false, true, false, false] rfl rfl (any_of HT_.out (by kernel_rfl)) (fun _ _ _ h => h) (Or.inl ⟨by rfl, ?_⟩) ?_ ?_
         rotate_left
         ·intro w'
          go_simp
          with_reducible rfl
         rotate_left
         ·simp only [Act.put, setIfInBounds_toArray, set_cons_zero, set_cons_succ, i64_w]
          rfl
         refine pure_ (i := 10) (N := some 30) (v := ?_) (a' := ?_) #[true, true, true, true, true, true, true, true, true, true, true, true, false, false] rfl rfl (any_of HT_.out (by kernel_rfl)) (fun _ _ _ h => h) (Or.inl ⟨by rfl, ?_⟩) ?_ ?_
         rotate_left
         ·intro w'
          go_simp
          with_reducible rfl
         rotate_left
         ·simp only [Act.put, setIfInBounds_toArray, set_cons_zero, set_cons_succ, i64_w]
          rfl
         exact norm_ (by simp only [Go.Proofs.YtkdendlgaaimbaaW.PrintLast.putAll, Act.put, List.setIfInBounds_toArray, List.set_cons_zero, List.set_cons_succ]) (hCont (vb, bb, vc, cb, A9, c9, A10, c10, Y, p3) _ ⟨HD.out.x0, HD.out.x1, hYN, HYn.out, HY.out, HSJ.out, HD.out, ⟨HDC.out, HGP.out.1, HGP.out.2⟩⟩)
       ·skip
        refine box_step ?hb9 (N := 9) ?hd9 (cs := #[.slice none 0 0, .slice none 0 0]) (t := 26) ?hr9 ?_; (case hd9 => rfl); (case hb9 => rfl); (case hr9 => first|(go_simp; done)|(go_simp; rfl))
        intro Y hYe wq hy hby
        have HY := Aside0.mk hy
        have hYN : V.heap.size ≤ Y := by rw [hYe]; exact HD.out.le
        have HYn : Aside0 (Y ≠ X ∧ Y ≠ T ∧ Y ≠ rb) := ⟨by rw [hYe]; exact HD.out.fresh⟩
        replace HN := Aside0.mk (Kd.R_below HN.out hby)
        replace HD := Aside0.mk (HD.out.below hby)
        clear hy hYe hby
        refine hK.out _ _ ⟨HD.out.x0, HD.out.x1⟩ (fun hHeld => ?_)
        clear hK K
        refine norm_ (a' := ?_) ?_ ?_
        rotate_left
        ·show Act.put _ (some 9) _ = _
         simp only [Act.put, setIfInBounds_toArray, set_cons_zero, set_cons_succ, i64_w]
         rfl
        refine one_ (i := 6) (N := some 27) #[true, true, true, true, true, true, true, false, false, false, false, true, false, false] rfl rfl (one_of HT_.out (by kernel_rfl)) (by decide) (fun K hK => ?_)
        refine goes_ Try.func70 (by kernel_rfl) rfl #[.pointer (some ⟨rb, 0, none⟩), vb, v] (by rfl) rfl rfl (by simp only [List.map_toArray, List.map_cons, List.map_nil]; rfl) ?_
        with_reducible refine (spec_l71Behind hS HD.out.rd (HQ.out _ g1) vb v bb f HN.out HD.out.sv HDB.out (by decide) HFL.out).mono ?_
        rintro e wq ⟨vc, cb, rfl, hr3, hd3, p3, g2, g3, hrd, hg⟩
        refine ⟨_, rfl, ?_⟩
        have HN2 := Aside0.mk hr3
        have HDC := Aside0.mk hd3
        have HCL := Aside0.mk (Nat.le_trans hd3.2.1 (by decide) : cb.length ≤ 1048576)
        have HGP := Aside0.mk (pp_two g0 g1 g2 g3 (by decide))
        replace HY := Aside0.mk (blk_grown HY.out hg (fun e => HYn.out.2.2 (Option.some.inj e)))
        replace HD := Aside0.mk (HD.out.pick hrd hg HFx.out)
        clear hr3 hd3 hrd hg HN HDB
        refine hK.out _ _ ⟨HD.out.x0, HD.out.x1⟩ (fun hHeld => ?_)
        clear hK K
        refine norm_ (a' := ?_) ?_ ?_
        rotate_left
        ·show Act.put _ (some 27) _ = _
         simp only [Act.put, setIfInBounds_toArray, set_cons_zero, set_cons_succ, i64_w]
         rfl
        refine one_ (i := 7) (N := some 28) #[true, true, true, true, true, true, true, true, false, false, false, true, false, false] rfl rfl (one_of HT_.out (by kernel_rfl)) (by decide) (fun K hK => ?_)
        refine goes_ Try.func19 (by kernel_rfl) rfl #[.agg #[u, v], vc] (by rfl) rfl rfl (by simp only [List.map_toArray, List.map_cons, List.map_nil]; rfl) ?_
        with_reducible refine (spec_SpineIn u v vc ls f cb _ HD.out.sp.s (Sl.of_R HN2.out) HSB.out HCL.out).mono ?_
        rintro e wq ⟨a, b, rfl, hr9, hb9⟩
        refine ⟨_, rfl, ?_⟩
        obtain ⟨A9, c9, e9⟩ := Kd.R_slice hr9.1
        subst e9
        obtain ⟨A10, c10, e9⟩ := Kd.R_slice hr9.2
        subst e9
        have HSJ := Aside0.mk (SpT.lower (hr9) HD.out.le)
        replace HY := Aside0.mk (blk_below HY.out hb9)
        replace HD := Aside0.mk (HD.out.below hb9)
        clear hr9 hb9
        refine hK.out _ _ ⟨HD.out.x0, HD.out.x1⟩ (fun hHeld => ?_)
        clear hK K
        refine norm_ (a' := ?_) ?_ ?_
        rotate_left
        ·show Act.put _ (some 28) _ = _
         simp only [Act.put, setIfInBounds_toArray, set_cons_zero, set_cons_succ, i64_w]
         rfl
        refine pure_ (i := 8) (N := some 20) (v := ?_) (a' := ?_) #[true, true, true, true, true, true, true, true, true, false, false, true, false, false] rfl rfl (any_of HT_.out (by kernel_rfl)) (fun _ _ _ h => h) (Or.inl ⟨by rfl, ?_⟩) ?_ ?_
        rotate_left
        ·intro w'
         go_simp
         with_reducible rfl
        rotate_left
        ·simp only [Act.put, setIfInBounds_toArray, set_cons_zero, set_cons_succ, i64_w]
         rfl
        refine pure_ (i := 9) (N := some 29) (v := ?_) (a' := ?_) #[true, true, true, true, true, true, true, true, true, true, false, true, false, false] rfl rfl (any_of HT_.out (by kernel_rfl)) (fun _ _ _ h => h) (Or.inl ⟨by rfl, ?_⟩) ?_ ?_
        rotate_left
        ·intro w'
         go_simp
         with_reducible rfl
        rotate_left
        ·simp only [Act.put, setIfInBounds_toArray, set_cons_zero, set_cons_succ, i64_w]
         rfl
        refine pure_ (i := 10) (N := some 30) (v := ?_) (a' := ?_) #[true, true, true, true, true, true, true, true, true, true, true, true, false, false] rfl rfl (any_of HT_.out (by kernel_rfl)) (fun _ _ _ h => h) (Or.inl ⟨by rfl, ?_⟩) ?_ ?_
        rotate_left
        ·intro w'
         go_simp
         with_reducible rfl
        rotate_left
        ·simp only [Act.put, setIfInBounds_toArray, set_cons_zero, set_cons_succ, i64_w]
         rfl
        exact norm_ (by simp only [Go.Proofs.YtkdendlgaaimbaaW.PrintLast.putAll, Act.put, List.setIfInBounds_toArray, List.set_cons_zero, List.set_cons_succ]) (hCont (vb, bb, vc, cb, A9, c9, A10, c10, Y, p3) _ ⟨HD.out.x0, HD.out.x1, hYN, HYn.out, HY.out, HSJ.out, HD.out, ⟨HDC.out, HGP.out.1, HGP.out.2⟩⟩)
      ·skip
       refine box_step ?hb9 (N := 9) ?hd9 (cs := #[.slice none 0 0, .slice none 0 0]) (t := 26) ?hr9 ?_; (case hd9 => rfl); (case hb9 => rfl); (case hr9 => first|(go_simp; done)|(go_simp; rfl))
       intro Y hYe wq hy hby
       have HY := Aside0.mk hy
       have hYN : V.heap.size ≤ Y := by rw [hYe]; exact HD.out.le
       have HYn : Aside0 (Y ≠ X ∧ Y ≠ T ∧ Y ≠ rb) := ⟨by rw [hYe]; exact HD.out.fresh⟩
       replace HD := Aside0.mk (HD.out.below hby)
       clear hy hYe hby
       refine hK.out _ _ ⟨HD.out.x0, HD.out.x1⟩ (fun hHeld => ?_)
       clear hK K
       refine norm_ (a' := ?_) ?_ ?_
       rotate_left
       ·show Act.put _ (some 9) _ = _
        simp only [Act.put, setIfInBounds_toArray, set_cons_zero, set_cons_succ, i64_w]
        rfl
       refine one_ (i := 3) (N := some 24) #[true, true, true, true, true, true, false, false, false, false, false, true, false, false] rfl rfl (one_of HT_.out (by kernel_rfl)) (by decide) (fun K hK => ?_)
       refine goes_ Try.func71 (by kernel_rfl) rfl #[.pointer (some ⟨rb, 0, none⟩), .int .i64 4] (by rfl) rfl rfl (by simp only [List.map_toArray, List.map_cons, List.map_nil]; rfl) ?_
       with_reducible refine (CB.out _ _ HD.out.rd HQ6.out).mono ?_
       rintro e wq ⟨vb, bb, rfl, hr2, hd2, p2, g0, g1, hrd, hg⟩
       refine ⟨_, rfl, ?_⟩
       have HN := Aside0.mk hr2
       have HDB := Aside0.mk hd2
       replace HY := Aside0.mk (blk_grown HY.out hg (fun e => HYn.out.2.2 (Option.some.inj e)))
       replace HD := Aside0.mk (HD.out.pick hrd hg HFx.out)
       clear hr2 hd2 hrd hg
       refine hK.out _ _ ⟨HD.out.x0, HD.out.x1⟩ (fun hHeld => ?_)
       clear hK K
       refine norm_ (a' := ?_) ?_ ?_
       rotate_left
       ·show Act.put _ (some 24) _ = _
        simp only [Act.put, setIfInBounds_toArray, set_cons_zero, set_cons_succ, i64_w]
        rfl
       refine one_ (i := 6) (N := some 27) #[true, true, true, true, true, true, true, false, false, false, false, true, false, false] rfl rfl (one_of HT_.out (by kernel_rfl)) (by decide) (fun K hK => ?_)
       refine goes_ Try.func70 (by kernel_rfl) rfl #[.pointer (some ⟨rb, 0, none⟩), vb, v] (by rfl) rfl rfl (by simp only [List.map_toArray, List.map_cons, List.map_nil]; rfl) ?_
       with_reducible refine (spec_l71Behind hS HD.out.rd (HQ.out _ g1) vb v bb f HN.out HD.out.sv HDB.out (by decide) HFL.out).mono ?_
       rintro e wq ⟨vc, cb, rfl, hr3, hd3, p3, g2, g3, hrd, hg⟩
       refine ⟨_, rfl, ?_⟩
       have HN2 := Aside0.mk hr3
       have HDC := Aside0.mk hd3
       have HCL := Aside0.mk (Nat.le_trans hd3.2.1 (by decide) : cb.length ≤ 1048576)
       have HGP := Aside0.mk (pp_two g0 g1 g2 g3 (by decide))
       replace HY := Aside0.mk (blk_grown HY.out hg (fun e => HYn.out.2.2 (Option.some.inj e)))
       replace HD := Aside0.mk (HD.out.pick hrd hg HFx.out)
       clear hr3 hd3 hrd hg HN HDB
       refine hK.out _ _ ⟨HD.out.x0, HD.out.x1⟩ (fun hHeld => ?_)
       clear hK K
       refine norm_ (a' := ?_) ?_ ?_
       rotate_left
       ·show Act.put _ (some 27) _ = _
        simp only [Act.put, setIfInBounds_toArray, set_cons_zero, set_cons_succ, i64_w]
        rfl
       refine one_ (i := 7) (N := some 28) #[true, true, true, true, true, true, true, true, false, false, false, true, false, false] rfl rfl (one_of HT_.out (by kernel_rfl)) (by decide) (fun K hK => ?_)
       refine goes_ Try.func19 (by kernel_rfl) rfl #[.agg #[u, v], vc] (by rfl) rfl rfl (by simp only [List.map_toArray, List.map_cons, List.map_nil]; rfl) ?_
       with_reducible refine (spec_SpineIn u v vc ls f cb _ HD.out.sp.s (Sl.of_R HN2.out) HSB.out HCL.out).mono ?_
       rintro e wq ⟨a, b, rfl, hr9, hb9⟩
       refine ⟨_, rfl, ?_⟩
       obtain ⟨A9, c9, e9⟩ := Kd.R_slice hr9.1
       subst e9
       obtain ⟨A10, c10, e9⟩ := Kd.R_slice hr9.2
       subst e9
       have HSJ := Aside0.mk (SpT.lower (hr9) HD.out.le)
       replace HY := Aside0.mk (blk_below HY.out hb9)
       replace HD := Aside0.mk (HD.out.below hb9)
       clear hr9 hb9
       refine hK.out _ _ ⟨HD.out.x0, HD.out.x1⟩ (fun hHeld => ?_)
       clear hK K
       refine norm_ (a' := ?_) ?_ ?_
       rotate_left
       ·show Act.put _ (some 28) _ = _
        simp only [Act.put, setIfInBounds_toArray, set_cons_zero, set_cons_succ, i64_w]
        rfl
       refine pure_ (i := 8) (N := some 20) (v := ?_) (a' := ?_) #[true, true, true, true, true, true, true, true, true, false, false, true, false, false] rfl rfl (any_of HT_.out (by kernel_rfl)) (fun _ _ _ h => h) (Or.inl ⟨by rfl, ?_⟩) ?_ ?_
       rotate_left
       ·intro w'
        go_simp
        with_reducible rfl
       rotate_left
       ·simp only [Act.put, setIfInBounds_toArray, set_cons_zero, set_cons_succ, i64_w]
        rfl
       refine pure_ (i := 9) (N := some 29) (v := ?_) (a' := ?_) #[true, true, true, true, true, true, true, true, true, true, false, true, false, false] rfl rfl (any_of HT_.out (by kernel_rfl)) (fun _ _ _ h => h) (Or.inl ⟨by rfl, ?_⟩) ?_ ?_
       rotate_left
       ·intro w'
        go_simp
        with_reducible rfl
       rotate_left
       ·simp only [Act.put, setIfInBounds_toArray, set_cons_zero, set_cons_succ, i64_w]
        rfl
       refine pure_ (i := 10) (N := some 30) (v := ?_) (a' := ?_) #[true, true, true, true, true, true, true, true, true, true, true, true, false, false] rfl rfl (any_of HT_.out (by kernel_rfl)) (fun _ _ _ h => h) (Or.inl ⟨by rfl, ?_⟩) ?_ ?_
       rotate_left
       ·intro w'
        go_simp
        with_reducible rfl
       rotate_left
       ·simp only [Act.put, setIfInBounds_toArray, set_cons_zero, set_cons_succ, i64_w]
        rfl
       exact norm_ (by simp only [Go.Proofs.YtkdendlgaaimbaaW.PrintLast.putAll, Act.put, List.setIfInBounds_toArray, List.set_cons_zero, List.set_cons_succ]) (hCont (vb, bb, vc, cb, A9, c9, A10, c10, Y, p3) _ ⟨HD.out.x0, HD.out.x1, hYN, HYn.out, HY.out, HSJ.out, HD.out, ⟨HDC.out, HGP.out.1, HGP.out.2⟩⟩)
     rintro ⟨vb, bb, vc, cb, A9, c9, A10, c10, Y, p2⟩ wc ⟨C0, C1, hYV, hYn, hy, hsj, hds, hG⟩
     dsimp only at hYV hYn hy hsj hds hG
     have HYn := Aside0.mk hYn
     have HG := Aside0.mk hG
     have HY := Aside0.mk hy
     have HSJ := Aside0.mk hsj
     replace HD := Aside0.mk hds
     have y0 := blk_cell hy 0
     have y1 := blk_cell hy 1
     have yf0 := blk_frozen hy 0
     have yf1 := blk_frozen hy 1
     clear hy hsj hds hYn hG
     have hHeld : wc.cell? ⟨X, 0, none⟩ = some u ∧ wc.cell? ⟨X, 1, none⟩ = some v := ⟨C0, C1⟩
     refine norm_ (a' := ?_) ?_ ?_
     rotate_left
     ·simp only [Go.Proofs.YtkdendlgaaimbaaW.PrintLast.putAll, Act.put, List.setIfInBounds_toArray, List.set_cons_zero, List.set_cons_succ]
      rfl
     refine last_ (i := 12) (N := none) #[true, true, true, true, true, true, true, true, true, true, true, true, true, false] rfl rfl (one_of HT_.out (by kernel_rfl)) (by decide) (fun K hK => ?_)
     refine skip_ (w1 := ?_) (by rfl) rfl ?_ ?_
     rotate_left
     ·go_simp
      rfl
     refine hK.out _ _ ?_
     clear hK K
     refine pure_ (i := 13) (N := some 10) (v := ?_) (a' := ?_) #[true, true, true, true, true, true, true, true, true, true, true, true, true, true] rfl rfl (any_of HT_.out (by kernel_rfl)) (fun _ _ _ h => h) (Or.inl ⟨by rfl, ?_⟩) ?_ ?_
     rotate_left
     ·intro w'
      go_simp
      with_reducible rfl
     rotate_left
     ·simp only [Act.put, setIfInBounds_toArray, set_cons_zero, set_cons_succ, i64_w]
      rfl
     refine done_ (done_of HT_.out (by kernel_rfl)) ?_
     have hds := DS.set2 HD.out HY.out HYn.out hYV HFx.out (.slice A9 (inL ls f cb).length c9) (.slice A10 (inF ls f cb).length c10)
     have hsj := SpT.set2 HSJ.out HY.out (.slice A9 (inL ls f cb).length c9) (.slice A10 (inF ls f cb).length c10)
     have hyb := blk2 HY.out (.slice A9 (inL ls f cb).length c9) (.slice A10 (inF ls f cb).length c10)
     obtain ⟨wd, hwd⟩ : ∃ wd, wd = (wc.setCell ⟨Y, 0, none⟩ (.slice A9 (inL ls f cb).length c9)).setCell ⟨Y, 1, none⟩ (.slice A10 (inF ls f cb).length c10) := ⟨_, rfl⟩
     rw [← hwd] at hds hsj hyb ⊢
     have HI := Aside0.mk (fun h : inB ls f cb = true => in_F HM.out MB.out HG.out.1.2.2 hf6 h)
     generalize inL ls f cb = L at hsj HI hyb ⊢
     generalize inF ls f cb = F at hsj HI hyb ⊢
     generalize inB ls f cb = B at HI ⊢
     replace HD := Aside0.mk hds
     replace HSJ := Aside0.mk hsj
     replace HY := Aside0.mk hyb
     clear hds hsj hyb hwd hHeld C0 C1 y0 y1 yf0 yf1 HT_ HW_
     clear hHeld
     have HP2 := Aside0.mk HG.out.2
     cases B
     ·go_wp2
      go_roundg m
      case measure => omega
      case rel => exact ⟨m, u, v, ls, f, p2, by go_num, Nat.le_refl _, hl6, hf6, by have := HP2.out; omega, by have := HP2.out; omega, ⟨HM.out.mono (by omega)⟩, HD⟩
     ·have y0 := blk_cell HY.out 0
      have y1 := blk_cell HY.out 1
      have x0 := HD.out.x0
      have x1 := HD.out.x1
      have xf0 := blk_fz HD.out.xb 0
      have xf1 := blk_fz HD.out.xb 1
      obtain ⟨i1, i2, i3⟩ := HI.out rfl
      go_wp2
      go_roundg m
      case measure => omega
      case rel => exact ⟨m, .slice A9 L.length c9, .slice A10 F.length c10, L, F, p2, by go_num, Nat.le_refl _, i2, i3, by have := HP2.out; omega, by have := HP2.out; omega, ⟨i1.mono (by omega)⟩, ⟨HD.out.put HSJ.out HFx.out⟩⟩
end Go.Proofs.Ytkdendlgaaimbaa.X
