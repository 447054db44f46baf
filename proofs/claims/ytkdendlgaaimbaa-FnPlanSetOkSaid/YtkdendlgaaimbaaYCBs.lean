/- Conditions: none. -/
import Derived.Test.YtkdendlgaaimbaaProg
import Derived.Test.YtkdendlgaaimbaaVAWords
import Derived.Test.YtkdendlgaaimbaaVAApart
import Derived.StillTailTactics
import Derived.Test.YtkdendlgaaimbaaYCPl
import Derived.Lib.Hide
import Derived.Laws.BitsLemmas
import Derived.Laws.CopyRow
import Derived.Laws.CopyOwn
import Derived.Test.YtkdendlgaaimbaaVAKept
import Derived.Lib.SmallJoins
namespace Go.Proofs.Ytkdendlgaaimbaa.X
open Go.RowKit Go.Proofs.YtkdendlgaaimbaaW.PrintWords
abbrev okT : Nat → Prop := fun _ => True
structure Ext (w : World) where
 w' : World
 bel : Below w.heap.size w w'
theorem Ext.cell {w : World} {p : Addr} {v : Value} (h : w.cell? p = some v) (u : Ext w) : u.w'.cell? p = some v := pw_cell_below u.bel h
def Ext.drew1 (w : World) : Ext w := ⟨w.drew, below_drew (Below.refl _ _)⟩
instance (w : World) : Nonempty (Ext w) := ⟨Ext.drew1 w⟩
theorem Calls.ext {P : Program} {f : FuncId} {args : Array Value} {w : World} {u : Ext w} {v : Value}
  (h : Calls P f args u.w' fun e w' => e = .returned v ∧ Below u.w'.heap.size u.w' w') : Calls P f args u.w' fun e w'' => e = .returned v ∧ ∃ u' : Ext w, w'' = u'.w' :=
 h.mono fun _ w'' ⟨he, hb⟩ => ⟨he, ⟨w'', below_then u.bel u.bel.size hb⟩, rfl⟩
theorem wp_region_ext {P : Program} {id : Nat} {Q : Exit → Act → World → Prop} {a : Act} {w : World} {l : List Oper} (hm : P.follows .mixedOrders = true) (hB : Region.lexB .any l.toArray = true)
  (h : wpQuiet P l.toArray (fun w' => ∃ u : Ext w, w' = u.w') (fun a' => ∀ u : Ext w, Q .normal a' u.w') l a) : (Code.region id l.toArray true).wp P Q a w := by
 refine wp_region_quiet (C := fun w' => ∃ u : Ext w, w' = u.w') hm hB ⟨Ext.drew1 w, rfl⟩ ?_
 have e : (fun a' => ∀ u : Ext w, Q .normal a' u.w') = (fun a' => ∀ w', (∃ u : Ext w, w' = u.w') → Q .normal a' w') := by
  funext a'
  exact propext ⟨fun h w' ⟨u, hu⟩ => hu ▸ h u, fun h u => h _ ⟨u, rfl⟩⟩
 rw [e] at h
 simpa using h
theorem name_world {P : Program} {c : Code} {Q : Exit → Act → World → Prop} {a : Act} {w : World} (h : ∀ W, W = w → c.wp P Q a W) : c.wp P Q a w := h _ rfl
theorem bcell {W w1 : World} (hb : Below W.heap.size W w1) : (∀ b o, b < W.heap.size → w1.cell? ⟨b, o, none⟩ = W.cell? ⟨b, o, none⟩) ∧ (∀ b o, b < W.heap.size → w1.frozen? ⟨b, o, none⟩ = W.frozen? ⟨b, o, none⟩) :=
 ⟨fun b o h => hb.cell (p := ⟨b, o, none⟩) h, fun b o h => hb.frozen (p := ⟨b, o, none⟩) h⟩
theorem bthen {w w1 w2 : World} (h : Below w.heap.size w w1) (k : Below w1.heap.size w1 w2) : Below w.heap.size w w2 := below_then h h.size k
theorem take_snoc {α : Type} {l : List α} {k : Nat} {x : α} (hx : l[k]? = some x) : l.take (k + 1) = l.take k ++ [x] := by
 obtain ⟨hlt, rfl⟩ := List.getElem?_eq_some_iff.1 hx
 exact List.take_succ_eq_append_getElem hlt
def kTm : Kd Tm := Kd.iso (Kd.pair (Kd.int .i64) (Kd.int .i64)) (fun x : Tm => (x.f0, x.f1))
def kRw : Kd Rw := Kd.iso (Kd.pair (Kd.int .i64) (Kd.pair (Kd.int .i64) (Kd.pair kTm (Kd.int .i64)))) (fun x : Rw => (x.f0, x.f1, x.f2, x.f3))
def kIt : Kd It := Kd.iso (Kd.pair (Kd.int .i64) (Kd.pair (Kd.int .i64) (Kd.int .i64))) (fun x : It => (x.f0, x.f1, x.f2))
def vTm (t : Tm) : List Value := [.int .i64 t.f0, .int .i64 t.f1]
def vRw (r : Rw) : List Value := [.int .i64 r.f0, .int .i64 r.f1, .int .i64 r.f2.f0, .int .i64 r.f2.f1, .int .i64 r.f3]
def vIt (x : It) : List Value := [.int .i64 x.f0, .int .i64 x.f1, .int .i64 x.f2]
theorem kTm_M {w : World} {b : Nat} {ok : Nat → Prop} {x : Tm} {cs : List Value} : kTm.M w b ok x cs ↔ cs = vTm x := ⟨fun ⟨_, _, h, h1, h2⟩ => by subst h1; subst h2; exact h, fun h => ⟨_, _, h, rfl, rfl⟩⟩
theorem kTm_K {w : World} {x : Tm} {cs : List Value} : kTm.K w x cs ↔ cs = vTm x := ⟨fun ⟨_, _, h, h1, h2⟩ => by subst h1; subst h2; exact h, fun h => ⟨_, _, h, rfl, rfl⟩⟩
theorem kRw_M {w : World} {b : Nat} {ok : Nat → Prop} {x : Rw} {cs : List Value} : kRw.M w b ok x cs ↔ cs = vRw x := by
 constructor
 ·rintro ⟨_, _, h, h1, ⟨_, _, h2, h3, ⟨_, _, h4, h5, h6⟩⟩⟩
  rw [kTm_M.1 h5, show _ = [Value.int .i64 x.f3] from h6] at h4; rw [h4, show _ = [Value.int .i64 x.f1] from h3] at h2; rw [h2, show _ = [Value.int .i64 x.f0] from h1] at h; exact h
 ·rintro rfl
  exact ⟨_, _, rfl, rfl, ⟨_, _, rfl, rfl, ⟨_, _, rfl, kTm_M.2 rfl, rfl⟩⟩⟩
theorem kRw_K {w : World} {x : Rw} {cs : List Value} : kRw.K w x cs ↔ cs = vRw x := by
 constructor
 ·rintro ⟨_, _, h, h1, ⟨_, _, h2, h3, ⟨_, _, h4, h5, h6⟩⟩⟩
  rw [kTm_K.1 h5, show _ = [Value.int .i64 x.f3] from h6] at h4; rw [h4, show _ = [Value.int .i64 x.f1] from h3] at h2; rw [h2, show _ = [Value.int .i64 x.f0] from h1] at h; exact h
 ·rintro rfl
  exact ⟨_, _, rfl, rfl, ⟨_, _, rfl, rfl, ⟨_, _, rfl, kTm_K.2 rfl, rfl⟩⟩⟩
theorem kIt_M {w : World} {b : Nat} {ok : Nat → Prop} {x : It} {cs : List Value} : kIt.M w b ok x cs ↔ cs = vIt x := by
 constructor
 ·rintro ⟨_, _, h, h1, ⟨_, _, h2, h3, h4⟩⟩
  rw [show _ = [Value.int .i64 x.f1] from h3, show _ = [Value.int .i64 x.f2] from h4] at h2; rw [h2, show _ = [Value.int .i64 x.f0] from h1] at h; exact h
 ·rintro rfl
  exact ⟨_, _, rfl, rfl, ⟨_, _, rfl, rfl, rfl⟩⟩
theorem kIt_K {w : World} {x : It} {cs : List Value} : kIt.K w x cs ↔ cs = vIt x := by
 constructor
 ·rintro ⟨_, _, h, h1, ⟨_, _, h2, h3, h4⟩⟩
  rw [show _ = [Value.int .i64 x.f1] from h3, show _ = [Value.int .i64 x.f2] from h4] at h2; rw [h2, show _ = [Value.int .i64 x.f0] from h1] at h; exact h
 ·rintro rfl
  exact ⟨_, _, rfl, rfl, ⟨_, _, rfl, rfl, rfl⟩⟩
def Sl {α : Type} (d : Kd α) (w : World) (v : Value) (xs : List α) : Prop := ∃ A c, v = .slice A xs.length c ∧ xs.length ≤ c ∧ d.C w A xs.length xs
section
variable {α : Type} {d : Kd α} {e : Nat} {w w1 wr : World} {base : Nat} {ok : Nat → Prop} {v : Value} {xs : List α} {A : Option Addr} {c : Nat}
theorem cget (h : d.C w A xs.length xs) (hb : Below w.heap.size w wr) {k : Nat} (hk : k < xs.length) : ∃ ad x cs, A = some ad ∧ xs[k]? = some x ∧ d.K wr x cs ∧ ∀ j u, cs[j]? = some u → wr.cell? (ad.add (k * d.sz + j)) = some u := by
 obtain ⟨ad, e, hc⟩ := h.2.2 (by omega)
 obtain ⟨cs, _, hK, hcell⟩ := hc k _ (List.getElem?_eq_getElem hk)
 exact ⟨ad, _, cs, e, List.getElem?_eq_getElem hk, d.K_below hb hK, fun j u hu => pw_cell_below hb (hcell j u hu)⟩
end
section
variable {w wr : World} {A : Option Addr} {k : Nat}
theorem rdRw {xs : List Rw} (h : kRw.C w A xs.length xs) (hb : Below w.heap.size w wr) (hk : k < xs.length) : ∃ ad x, A = some ad ∧ Aside0 (xs[k]? = some x) ∧ wr.cell? (ad.add (k * 5)) = some (.int .i64 x.f0) ∧ wr.cell? ⟨(ad.add (k * 5)).block, (ad.add (k * 5)).off + 1, none⟩ = some (.int .i64 x.f1) ∧ wr.cell? ⟨(ad.add (k * 5)).block, (ad.add (k * 5)).off + 2, none⟩ = some (.int .i64 x.f2.f0) ∧ wr.cell? ⟨(ad.add (k * 5)).block, (ad.add (k * 5)).off + 3, none⟩ = some (.int .i64 x.f2.f1) ∧ wr.cell? ⟨(ad.add (k * 5)).block, (ad.add (k * 5)).off + 4, none⟩ = some (.int .i64 x.f3) := by
 obtain ⟨ad, x, cs, e, hx, hK, hc⟩ := cget h hb hk
 rw [kRw_K] at hK; subst hK
 exact ⟨ad, x, e, ⟨hx⟩, hc 0 _ rfl, by rw [← add_field _ _ 1 (by omega)]; exact hc 1 _ rfl, by rw [← add_field _ _ 2 (by omega)]; exact hc 2 _ rfl, by rw [← add_field _ _ 3 (by omega)]; exact hc 3 _ rfl, by rw [← add_field _ _ 4 (by omega)]; exact hc 4 _ rfl⟩
theorem rdIt {xs : List It} (h : kIt.C w A xs.length xs) (hb : Below w.heap.size w wr) (hk : k < xs.length) : ∃ ad x, A = some ad ∧ Aside0 (xs[k]? = some x) ∧ wr.cell? (ad.add (k * 3)) = some (.int .i64 x.f0) ∧ wr.cell? ⟨(ad.add (k * 3)).block, (ad.add (k * 3)).off + 1, none⟩ = some (.int .i64 x.f1) ∧ wr.cell? ⟨(ad.add (k * 3)).block, (ad.add (k * 3)).off + 2, none⟩ = some (.int .i64 x.f2) := by
 obtain ⟨ad, x, cs, e, hx, hK, hc⟩ := cget h hb hk
 rw [kIt_K] at hK; subst hK
 exact ⟨ad, x, e, ⟨hx⟩, hc 0 _ rfl, by rw [← add_field _ _ 1 (by omega)]; exact hc 1 _ rfl, by rw [← add_field _ _ 2 (by omega)]; exact hc 2 _ rfl⟩
end
section
variable {w wr : World} {A : Option Addr} {k : Nat}
end
section
variable {P : Program} {ops : Array Oper} {rest : List Oper} {o : Oper} {a : Act} {Q : Exit → Act → World → Prop} {α : Type}
end
section
variable {P : Program} {ops : Array Oper} {rest : List Oper} {o : Oper} {a : Act} {Q : Exit → Act → World → Prop} {α : Type}
end
theorem blk_two (w : World) (A B : Obj) : ((w.alloc A).alloc B).heap[w.heap.size + 1]? = some B := by
 have := blk_new (w.alloc A) B
 simpa using this
theorem infoRw : (Try.prog.info? 102).map (fun i => (i.zero, i.size, i.bytes)) = some (some (.agg #[.int .i64 0, .int .i64 0, .int .i64 0, .int .i64 0, .int .i64 0]), 5, 40) := by kernel_rfl
theorem infoIt : (Try.prog.info? 118).map (fun i => (i.zero, i.size, i.bytes)) = some (some (.agg #[.int .i64 0, .int .i64 0, .int .i64 0]), 3, 24) := by kernel_rfl
section
variable {ops : Array Oper} {rest : List Oper} {o : Oper} {a : Act} {Q : Exit → Act → World → Prop}
theorem appRw {w0 W : World} {base : Nat} {s x : Operand} {p0 p1 p2 p3 p4 : Int} {xs : List Rw} {ok : Nat → Prop} (hgd : o.guard = none)
  (ho : o.op = .call { callee := .builtin .append, args := #[s, x], argTypes := #[27, 27] })
  (hx : a.eval x = .slice (some ⟨W.heap.size, 0, none⟩) 1 1) (HO : kRw.R 102 W base ok (a.eval s) xs) (hfresh : ∀ k, W.heap.size ≤ k → ok k) (HB : Below base w0 W) (hbase : base ≤ W.heap.size) (hl : xs.length < 3518437208000)
  (h : ∀ v1 w1, kRw.R 102 w1 base ok v1 (xs ++ [⟨p0, p1, ⟨p2, p3⟩, p4⟩]) → Below base w0 w1 → W.grownBy w1 (a.eval s).ownBlock → ((v1.ownBlock = (a.eval s).ownBlock) ∨ ∃ b, v1.ownBlock = some b ∧ W.heap.size ≤ b) → wpList Try.prog ops Q rest (a.put o.dst v1) w1) :
  wpList Try.prog ops Q (o :: rest) a (W.alloc (.cells #[.int .i64 p0, .int .i64 p1, .int .i64 p2, .int .i64 p3, .int .i64 p4] 102)) :=
 Kd.R_append kRw (w0 := w0) base hgd s x 27 102 (.agg #[.int .i64 0, .int .i64 0, .int .i64 0, .int .i64 0, .int .i64 0]) 40 ho Try.underlying27 infoRw rfl (by decide) (by omega) _ xs ⟨p0, p1, ⟨p2, p3⟩, p4⟩ _ ok (fun _ => False) rfl hx (kRw_M.2 rfl) (fun _ hk => hk.elim) hfresh HO HB hbase (by omega) h
theorem appIt {w0 W : World} {base : Nat} {s x : Operand} {p0 p1 p2 : Int} {xs : List It} {ok : Nat → Prop} (hgd : o.guard = none)
  (ho : o.op = .call { callee := .builtin .append, args := #[s, x], argTypes := #[46, 46] })
  (hx : a.eval x = .slice (some ⟨W.heap.size, 0, none⟩) 1 1) (HO : kIt.R 118 W base ok (a.eval s) xs) (hfresh : ∀ k, W.heap.size ≤ k → ok k) (HB : Below base w0 W) (hbase : base ≤ W.heap.size) (hl : xs.length < 3518437208000)
  (h : ∀ v1 w1, kIt.R 118 w1 base ok v1 (xs ++ [⟨p0, p1, p2⟩]) → Below base w0 w1 → W.grownBy w1 (a.eval s).ownBlock → ((v1.ownBlock = (a.eval s).ownBlock) ∨ ∃ b, v1.ownBlock = some b ∧ W.heap.size ≤ b) → wpList Try.prog ops Q rest (a.put o.dst v1) w1) :
  wpList Try.prog ops Q (o :: rest) a (W.alloc (.cells #[.int .i64 p0, .int .i64 p1, .int .i64 p2] 118)) :=
 Kd.R_append kIt (w0 := w0) base hgd s x 46 118 (.agg #[.int .i64 0, .int .i64 0, .int .i64 0]) 24 ho Try.underlying46 infoIt rfl (by decide) (by omega) _ xs ⟨p0, p1, p2⟩ _ ok (fun _ => False) rfl hx (kIt_M.2 rfl) (fun _ hk => hk.elim) hfresh HO HB hbase (by omega) h
end
def RetV (w : World) (v : Value) (e : Ending) (w' : World) : Prop := e = .returned v ∧ Below w.heap.size w w'
theorem RetV.mk {w w' : World} {u v : Value} (h : u = v) (hb : Below w.heap.size w w') : RetV w v (.returned u) w' := ⟨by rw [h], hb⟩
def RetR {α : Type} (d : Kd α) (e : Nat) (w : World) (xs : List α) (en : Ending) (w' : World) : Prop := ∃ v, en = .returned v ∧ d.R e w' w.heap.size okT v xs ∧ Below w.heap.size w w'
theorem Calls.extV {P : Program} {f : FuncId} {args : Array Value} {w : World} {u : Ext w} {v : Value} (h : Calls P f args u.w' (RetV u.w' v)) : Calls P f args u.w' fun e w'' => e = .returned v ∧ ∃ u' : Ext w, w'' = u'.w' := Calls.ext h
end Go.Proofs.Ytkdendlgaaimbaa.X
namespace Go.Proofs.Ytkdendlgaaimbaa.X
open Go.RowKit Go.Proofs.YtkdendlgaaimbaaW.PrintWords
set_option linter.unusedVariables false
set_option linter.unusedSimpArgs false
set_option maxRecDepth 100000 in
set_option maxHeartbeats 400000 in
theorem impl_ahead (a b c d : Int) (w : World) : Calls Try.prog 143 #[.agg #[.int .i64 a, .int .i64 b], .agg #[.int .i64 c, .int .i64 d]] w (RetV w (.bool (ahead ⟨a, b⟩ ⟨c, d⟩))) := by
 have HB := Aside0.mk (Below.refl w.heap.size w)
 go_enter Try.func143, Try.ntmps143
 go_wp2
 all_goals (go_ret; exact RetV.mk (by simp_all [ahead] <;> omega) (by repeat (first | exact HB.out | apply below_alloc)))
end Go.Proofs.Ytkdendlgaaimbaa.X
namespace Go.Proofs.Ytkdendlgaaimbaa.X
open Go.RowKit Go.Proofs.YtkdendlgaaimbaaW.PrintWords
set_option linter.unusedVariables false
set_option linter.unusedSimpArgs false
end Go.Proofs.Ytkdendlgaaimbaa.X
namespace Go.Proofs.Ytkdendlgaaimbaa.X
open Go.RowKit Go.Proofs.YtkdendlgaaimbaaW.PrintWords
set_option linter.unusedVariables false
set_option linter.unusedSimpArgs false
set_option maxRecDepth 100000 in
set_option maxHeartbeats 1000000 in
theorem impl_rowAhead (x y : Rw) (w : World) : Calls Try.prog 98 #[.agg #[.int .i64 x.f0, .int .i64 x.f1, .int .i64 x.f2.f0, .int .i64 x.f2.f1, .int .i64 x.f3], .agg #[.int .i64 y.f0, .int .i64 y.f1, .int .i64 y.f2.f0, .int .i64 y.f2.f1, .int .i64 y.f3]] w (RetV w (.bool (rowAhead x y))) := by
 have HB := Aside0.mk (Below.refl w.heap.size w)
 go_enter Try.func98, Try.ntmps98
 go_wp2_with (first | (go_at_call 143; refine (impl_ahead _ _ _ _ _).mono ?_; rintro e w' ⟨rfl, hb⟩; replace HB := Aside0.mk (bthen (by repeat (first | exact HB.out | apply below_alloc)) hb); obtain ⟨hc, hf⟩ := bcell hb))
 all_goals (go_ret; exact RetV.mk (by simp_all [rowAhead]) (by repeat (first | exact HB.out | apply below_alloc)))
end Go.Proofs.Ytkdendlgaaimbaa.X
namespace Go.Proofs.Ytkdendlgaaimbaa.X
open Go.RowKit Go.Proofs.YtkdendlgaaimbaaW.PrintWords
set_option linter.unusedVariables false
set_option linter.unusedSimpArgs false
end Go.Proofs.Ytkdendlgaaimbaa.X
namespace Go.Proofs.Ytkdendlgaaimbaa.X
open Go.RowKit Go.Proofs.YtkdendlgaaimbaaW.PrintWords
set_option linter.unusedVariables false
set_option linter.unusedSimpArgs false
end Go.Proofs.Ytkdendlgaaimbaa.X
namespace Go.Proofs.Ytkdendlgaaimbaa.X
open Go.RowKit
end Go.Proofs.Ytkdendlgaaimbaa.X
namespace Go.Proofs.Ytkdendlgaaimbaa.X
open Go.RowKit Go.Proofs.YtkdendlgaaimbaaW.PrintWords
set_option linter.unusedVariables false
set_option linter.unusedSimpArgs false
section
variable {P : Program} {ops : Array Oper} {rest : List Oper} {o : Oper} {a : Act} {Q : Exit → Act → World → Prop} {α : Type}
end
end Go.Proofs.Ytkdendlgaaimbaa.X
namespace Go.Proofs.Ytkdendlgaaimbaa.X
open Go.RowKit Go.Proofs.YtkdendlgaaimbaaW.PrintWords
set_option linter.unusedVariables false
set_option linter.unusedSimpArgs false
section
variable {P : Program} {ops : Array Oper} {rest : List Oper} {o : Oper} {a : Act} {Q : Exit → Act → World → Prop}
end
end Go.Proofs.Ytkdendlgaaimbaa.X
namespace Go.Proofs.Ytkdendlgaaimbaa.X
open Go.RowKit Go.Proofs.YtkdendlgaaimbaaW.PrintWords
set_option linter.unusedVariables false
set_option linter.unusedSimpArgs false
section
variable {P : Program} {ops : Array Oper} {rest : List Oper} {o : Oper} {a : Act} {Q : Exit → Act → World → Prop}
end
end Go.Proofs.Ytkdendlgaaimbaa.X
namespace Go.Proofs.Ytkdendlgaaimbaa.X
open Go.RowKit Go.ChangeShapes Go.WideShapes Go.WideElems Go.Deep Go.Proofs.YtkdendlgaaimbaaW.PrintWords
set_option linter.unusedVariables false
set_option linter.unusedSimpArgs false
end Go.Proofs.Ytkdendlgaaimbaa.X
