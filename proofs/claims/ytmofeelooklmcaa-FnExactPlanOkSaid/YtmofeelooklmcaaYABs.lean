/- The words of the walks, and the walks of the small functions. Conditions: none. -/
import Derived.Test.YtmofeelooklmcaaProg
import Derived.Test.YtmofeelooklmcaaWWords
import Derived.Test.YtmofeelooklmcaaWApart
import Derived.StillTailTactics
import Derived.Test.YtmofeelooklmcaaYAPl
import Derived.Lib.Hide
import Derived.Laws.BitsLemmas
import Derived.Laws.CopyRow
import Derived.Laws.CopyOwn
import Derived.Test.YtmofeelooklmcaaWKept
import Derived.Lib.SmallJoins
namespace Go.Proofs.Ytmofeelooklmcaa.X
open Go.RowKit Go.Proofs.YtmofeelooklmcaaW.PrintWords

abbrev okT : Nat → Prop := fun _ => True

/-- a world behind w: nothing that stood has changed -/
structure Ext (w : World) where
  w' : World
  bel : Below w.heap.size w w'
theorem Ext.cell {w : World} {p : Addr} {v : Value} (h : w.cell? p = some v) (u : Ext w) : u.w'.cell? p = some v := pw_cell_below u.bel h
def Ext.drew1 (w : World) : Ext w := ⟨w.drew, below_drew (Below.refl _ _)⟩
instance (w : World) : Nonempty (Ext w) := ⟨Ext.drew1 w⟩
theorem Calls.ext {P : Program} {f : FuncId} {args : Array Value} {w : World} {u : Ext w} {v : Value}
    (h : Calls P f args u.w' fun e w' => e = .returned v ∧ Below u.w'.heap.size u.w' w') : Calls P f args u.w' fun e w'' => e = .returned v ∧ ∃ u' : Ext w, w'' = u'.w' :=
  h.mono fun _ w'' ⟨he, hb⟩ => ⟨he, ⟨w'', below_then u.bel u.bel.size hb⟩, rfl⟩
/-- A region that draws, whose operations read and call what changes nothing that stood: one walk. -/
theorem wp_region_ext {P : Program} {id : Nat} {Q : Exit → Act → World → Prop} {a : Act} {w : World} {l : List Oper} (hm : P.follows .mixedOrders = true) (hB : Region.lexB .any l.toArray = true)
    (h : wpQuiet P l.toArray (fun w' => ∃ u : Ext w, w' = u.w') (fun a' => ∀ u : Ext w, Q .normal a' u.w') l a) : (Code.region id l.toArray true).wp P Q a w := by
  refine wp_region_quiet (C := fun w' => ∃ u : Ext w, w' = u.w') hm hB ⟨Ext.drew1 w, rfl⟩ ?_
  have e : (fun a' => ∀ u : Ext w, Q .normal a' u.w') = (fun a' => ∀ w', (∃ u : Ext w, w' = u.w') → Q .normal a' w') := by
    funext a'
    exact propext ⟨fun h w' ⟨u, hu⟩ => hu ▸ h u, fun h u => h _ ⟨u, rfl⟩⟩
  rw [e] at h
  simpa using h
theorem name_world {P : Program} {c : Code} {Q : Exit → Act → World → Prop} {a : Act} {w : World} (h : ∀ W, W = w → c.wp P Q a W) : c.wp P Q a w := h _ rfl
/-- one more step -/
theorem bthen {w w1 w2 : World} (h : Below w.heap.size w w1) (k : Below w1.heap.size w1 w2) : Below w.heap.size w w2 := below_then h h.size k

theorem ret_bool {a b : Bool} (h : a = b) : Ending.returned (.bool a) = .returned (.bool b) := by rw [h]
theorem take_snoc {α : Type} {l : List α} {k : Nat} {x : α} (hx : l[k]? = some x) : l.take (k + 1) = l.take k ++ [x] := by
  obtain ⟨hlt, rfl⟩ := List.getElem?_eq_some_iff.1 hx
  exact List.take_succ_eq_append_getElem hlt
def Sl {α : Type} (d : Kd α) (w : World) (v : Value) (xs : List α) : Prop := ∃ A c, v = .slice A xs.length c ∧ xs.length ≤ c ∧ d.C w A xs.length xs
section
variable {α : Type} {d : Kd α} {e : Nat} {w w1 wr : World} {base : Nat} {ok : Nat → Prop} {v : Value} {xs : List α} {A : Option Addr} {c : Nat}
theorem Sl.of_R (h : d.R e w base ok v xs) : Sl d w v xs := by obtain ⟨A, c, h1, h2, h3⟩ := Kd.R_reads h; exact ⟨A, c, h1, h2, h3⟩
theorem Sl.below (h : Sl d w v xs) (hb : Below w.heap.size w w1) : Sl d w1 v xs := by obtain ⟨A, c, h1, h2, h3⟩ := h; exact ⟨A, c, h1, h2, Kd.C_below h3 hb⟩
theorem Sl.mk' (h : d.C w A xs.length xs) (hc : xs.length ≤ c) : Sl d w (.slice A xs.length c) xs := ⟨A, c, rfl, hc, h⟩
theorem Sl.nil (d : Kd α) (w : World) : Sl d w (.slice none 0 0) [] := ⟨none, 0, rfl, Nat.le_refl _, Kd.C_nil d w⟩

theorem cget (h : d.C w A xs.length xs) (hb : Below w.heap.size w wr) {k : Nat} (hk : k < xs.length) : ∃ ad x cs, A = some ad ∧ xs[k]? = some x ∧ d.K wr x cs ∧ ∀ j u, cs[j]? = some u → wr.cell? (ad.add (k * d.sz + j)) = some u := by
  obtain ⟨ad, e, hc⟩ := h.2.2 (by omega)
  obtain ⟨cs, _, hK, hcell⟩ := hc k _ (List.getElem?_eq_getElem hk)
  exact ⟨ad, _, cs, e, List.getElem?_eq_getElem hk, d.K_below hb hK, fun j u hu => pw_cell_below hb (hcell j u hu)⟩
end
section
variable {w wr : World} {A : Option Addr} {k : Nat}
end

section
variable {w wr : World} {A : Option Addr} {k : Nat}
end
section
variable {P : Program} {ops : Array Oper} {rest : List Oper} {o : Oper} {a : Act} {Q : Exit → Act → World → Prop} {α : Type}
/-- out[k] = x, the whole element -/
theorem storeEl (d : Kd α) {w0 W : World} {base : Nat} (hN : o.dst = none) (hgd : o.guard = none) {t : TypeId} {p x : Operand} (ho : o.op = .store t p x) {e g n cap o' : Nat} (k : Nat) {xs : List α} (x' : α) (cs : List Value) {ok okp : Nat → Prop}
    (haddr : a.eval p = .pointer (some ⟨g, o', none⟩)) (hoff : o' = k * d.sz) (hu : (a.eval x).cells.toList = cs) (ht : (P.info? t).map (·.size) = some d.sz)
    (HO : d.R e W base ok (.slice (some ⟨g, 0, none⟩) n cap) xs) (hi : k < n) (hM : d.M W base okp x' cs) (hokp : ∀ q, okp q → ok q ∧ q ≠ g) (HB : Below base w0 W)
    (h : ∀ w1, d.R e w1 base ok (.slice (some ⟨g, 0, none⟩) n cap) (xs.set k x') → Below base w0 w1 → W.grownBy w1 (some g) → wpList P ops Q rest a w1) : wpList P ops Q (o :: rest) a W := by
  have hl := d.K_len (d.K_of_M hM)
  obtain ⟨c, hcl, _, hcc, _⟩ := Kd.R_elem HO x' (k : Int) (by omega) (by omega)
  simp only [Int.toNat_natCast] at hcc
  refine Kd.R_store d base hN hgd t p x ho e (k : Int) 0 xs x' _ cs c ok okp haddr (by simpa using hoff) rfl hu (by rw [hl]; exact ht) (d.K_one (d.K_of_M hM)) HO (by omega) (by omega) hcl (by simpa using hcc) (by omega) ?_ hokp HB (by simpa using h)
  rw [List.take_zero, List.nil_append, Nat.zero_add, hl, List.drop_of_length_le (by omega), List.append_nil]
  exact hM
end
section
variable {P : Program} {ops : Array Oper} {rest : List Oper} {o : Oper} {a : Act} {Q : Exit → Act → World → Prop} {α : Type}
end
theorem formR {α : Type} {d : Kd α} {e : Nat} {w : World} {base : Nat} {ok : Nat → Prop} {v : Value} {xs : List α} {n : Nat} (h : d.R e w base ok v xs) (hn : xs.length = n) (hp : 0 < n) : ∃ g cap, v = .slice (some ⟨g, 0, none⟩) n cap ∧ base ≤ g ∧ g < w.heap.size := by
  subst hn
  obtain ⟨g, cap, h1, h2, h3, _⟩ := Kd.R_form h hp
  exact ⟨g, cap, h1, h2, h3⟩
/-- a struct that lies in memory is handed back -/
theorem ret_cell {P : Program} {fn : Func} {R : Ending → World → Prop} {a : Act} {w : World} {p : Tmp} {ty : TypeId} {g : Nat} {cs : Array Value} {d : TypeDesc} (h : fn.results = #[.cell p ty]) (hp : a.tmps.getD p undef = .pointer (some ⟨g, 0, none⟩)) (hd : a.defers = [])
    (hg : w.heap[g]? = some (.cells cs ty (0, 0))) (hu : P.underlying ty = some d) (hk : (match d with | .struct _ | .array _ _ => true | _ => false) = true) (hi : (P.info? ty).map (·.size) = some cs.size) (hR : R (.returned (.agg cs)) w) : bodyPost P fn R .ret a w :=
  bodyPost_ret (results_cell_row h _ _ g ty cs (0, 0) d hp hg hu hk hi) hd hR
theorem blk3 {w : World} {g : Nat} {t : TypeId} {z0 z1 z2 : Value} (h : w.heap[g]? = some (.cells #[z0, z1, z2] t (0, 0))) (u0 u1 u2 : Value) : (((w.setCell ⟨g, 0, none⟩ u0).setCell ⟨g, 1, none⟩ u1).setCell ⟨g, 2, none⟩ u2).heap[g]? = some (.cells #[u0, u1, u2] t (0, 0)) := by simpa using blk_set (blk_set (blk_set h 0 u0) 1 u1) 2 u2
theorem blk_two (w : World) (A B : Obj) : ((w.alloc A).alloc B).heap[w.heap.size + 1]? = some B := by
  have := blk_new (w.alloc A) B
  simpa using this
theorem set_next {α : Type} {l : List α} {k : Nat} {x z : α} (hx : l[k]? = some x) : (l.take k ++ List.replicate (l.length - k) z).set k x = l.take (k + 1) ++ List.replicate (l.length - (k + 1)) z := by
  obtain ⟨hlt, rfl⟩ := List.getElem?_eq_some_iff.1 hx
  rw [List.set_append_right _ _ (by rw [List.length_take]; omega), List.length_take, show k - min k l.length = 0 by omega, show l.length - k = (l.length - (k + 1)) + 1 by omega, List.replicate_succ, List.set_cons_zero, List.take_succ_eq_append_getElem hlt, List.append_assoc]
  rfl

section
variable {ops : Array Oper} {rest : List Oper} {o : Oper} {a : Act} {Q : Exit → Act → World → Prop}
end

/-- a value; nothing that stood has changed -/
def RetV (w : World) (v : Value) (e : Ending) (w' : World) : Prop := e = .returned v ∧ Below w.heap.size w w'
theorem RetV.mk {w w' : World} {u v : Value} (h : u = v) (hb : Below w.heap.size w w') : RetV w v (.returned u) w' := ⟨by rw [h], hb⟩
/-- a slice of its own -/
def RetR {α : Type} (d : Kd α) (e : Nat) (w : World) (xs : List α) (en : Ending) (w' : World) : Prop := ∃ v, en = .returned v ∧ d.R e w' w.heap.size okT v xs ∧ Below w.heap.size w w'
theorem RetR.mk {α : Type} {d : Kd α} {e : Nat} {w w' : World} {xs : List α} {v : Value} (h : d.R e w' w.heap.size okT v xs) (hb : Below w.heap.size w w') : RetR d e w xs (.returned v) w' := ⟨v, rfl, h, hb⟩
theorem Calls.extV {P : Program} {f : FuncId} {args : Array Value} {w : World} {u : Ext w} {v : Value} (h : Calls P f args u.w' (RetV u.w' v)) : Calls P f args u.w' fun e w'' => e = .returned v ∧ ∃ u' : Ext w, w'' = u'.w' := Calls.ext h
end Go.Proofs.Ytmofeelooklmcaa.X

namespace Go.Proofs.Ytmofeelooklmcaa.X
open Go.RowKit Go.Proofs.YtmofeelooklmcaaW.PrintWords
set_option linter.unusedVariables false
set_option linter.unusedSimpArgs false

set_option maxRecDepth 100000 in
set_option maxHeartbeats 400000 in
theorem spec_l6In (n lo hi : Int) (w : World) : Calls Try.prog 103 #[.int .i64 n, .int .i64 lo, .int .i64 hi] w fun e w' => e = .returned (.bool (decide (lo ≤ n) && decide (n ≤ hi))) ∧ w = w' := by
  have HB := Aside0.mk (Below.refl w.heap.size w)
  go_enter Try.func103, Try.ntmps103
  go_wp2
  all_goals (go_ret; exact ⟨ret_bool (by first | (simp [*]; done) | (simp [*]; omega)), rfl⟩)
end Go.Proofs.Ytmofeelooklmcaa.X

namespace Go.Proofs.Ytmofeelooklmcaa.X
open Go.RowKit Go.Proofs.YtmofeelooklmcaaW.PrintWords
set_option linter.unusedVariables false
set_option linter.unusedSimpArgs false

end Go.Proofs.Ytmofeelooklmcaa.X

namespace Go.Proofs.Ytmofeelooklmcaa.X
open Go.RowKit Go.Proofs.YtmofeelooklmcaaW.PrintWords
set_option linter.unusedVariables false
set_option linter.unusedSimpArgs false

end Go.Proofs.Ytmofeelooklmcaa.X

namespace Go.Proofs.Ytmofeelooklmcaa.X
open Go.RowKit Go.Proofs.YtmofeelooklmcaaW.PrintWords
set_option linter.unusedVariables false
set_option linter.unusedSimpArgs false

end Go.Proofs.Ytmofeelooklmcaa.X

namespace Go.Proofs.Ytmofeelooklmcaa.X
open Go.RowKit Go.Proofs.YtmofeelooklmcaaW.PrintWords
set_option linter.unusedVariables false
set_option linter.unusedSimpArgs false

end Go.Proofs.Ytmofeelooklmcaa.X

namespace Go.Proofs.Ytmofeelooklmcaa.X
open Go.RowKit

/-- from some round on it answers r -/
def Ev {α : Type} (f : Nat → Option α) (r : α) : Prop := ∃ K, ∀ k, K ≤ k → f k = some r
theorem Ev.bind {α β : Type} {f : Nat → Option α} {a : α} {g : Nat → α → Option β} {b : β} (h : Ev f a) (h2 : Ev (fun k => g k a) b) : Ev (fun k => (f k).bind (g k)) b := by
  obtain ⟨K, h⟩ := h
  obtain ⟨L, h2⟩ := h2
  refine ⟨max K L, fun k hk => ?_⟩
  show (f k).bind (g k) = some b
  rw [h k (by omega)]
  exact h2 k (by omega)
theorem Ev.pure {α : Type} (a : α) : Ev (fun _ => some a) a := ⟨0, fun _ _ => rfl⟩
theorem Ev.succ {α : Type} {f : Nat → Option α} {a : α} (h : Ev (fun k => f (k + 1)) a) : Ev f a := by
  obtain ⟨K, h⟩ := h
  refine ⟨K + 1, fun k hk => ?_⟩
  obtain ⟨j, rfl⟩ : ∃ j, k = j + 1 := ⟨k - 1, by omega⟩
  exact h j (by omega)
theorem Ev.of {α : Type} {f g : Nat → Option α} {a : α} (h : Ev f a) (e : ∀ k, g k = f k) : Ev g a := by
  obtain ⟨K, h⟩ := h
  exact ⟨K, fun k hk => by rw [e]; exact h k hk⟩
theorem Ev.get {α : Type} {f : Nat → Option α} {a : α} (h : Ev f a) : ∃ k, f k = some a := by
  obtain ⟨K, h⟩ := h
  exact ⟨K, h K (Nat.le_refl _)⟩
theorem wsmall {n : Int} (h0 : 0 ≤ n) (h1 : n < 9223372036854775808) : wrap64 n = n := by unfold wrap64; omega
end Go.Proofs.Ytmofeelooklmcaa.X

namespace Go.Proofs.Ytmofeelooklmcaa.X
open Go.RowKit Go.Proofs.YtmofeelooklmcaaW.PrintWords
set_option linter.unusedVariables false
set_option linter.unusedSimpArgs false

section
variable {P : Program} {ops : Array Oper} {rest : List Oper} {o : Oper} {a : Act} {Q : Exit → Act → World → Prop} {α : Type}
end
end Go.Proofs.Ytmofeelooklmcaa.X

namespace Go.Proofs.Ytmofeelooklmcaa.X
open Go.RowKit Go.Proofs.YtmofeelooklmcaaW.PrintWords
set_option linter.unusedVariables false
set_option linter.unusedSimpArgs false

section
variable {P : Program} {ops : Array Oper} {rest : List Oper} {o : Oper} {a : Act} {Q : Exit → Act → World → Prop}
end
end Go.Proofs.Ytmofeelooklmcaa.X

namespace Go.Proofs.Ytmofeelooklmcaa.X
open Go.RowKit Go.Proofs.YtmofeelooklmcaaW.PrintWords
set_option linter.unusedVariables false
set_option linter.unusedSimpArgs false

section
variable {P : Program} {ops : Array Oper} {rest : List Oper} {o : Oper} {a : Act} {Q : Exit → Act → World → Prop}
end
end Go.Proofs.Ytmofeelooklmcaa.X

namespace Go.Proofs.Ytmofeelooklmcaa.X
open Go.RowKit Go.ChangeShapes Go.WideShapes Go.WideElems Go.Deep Go.Proofs.YtmofeelooklmcaaW.PrintWords
set_option linter.unusedVariables false
set_option linter.unusedSimpArgs false

theorem cells1 : Try.prog.cellsOf 3 = 1 := by kernel_rfl
theorem opens_int {H : Type} {enc : TypeId × Value → H} {w : World} {base : Nat} {spare : Nat → Bool} {held : Bool} {fuel : Nat} {cs : List Value} {x : DataW H × List MemPlace}
    (h : DataW.trod enc Try.prog w base spare held fuel 3 cs = some x) : ∃ n, cs = [.int .i64 n] := by
  obtain ⟨n, h1, _, _⟩ := DataW.trod_int Try.underlying3 h
  exact ⟨n, h1⟩
end Go.Proofs.Ytmofeelooklmcaa.X

