/- The words of the walks, and the walks of the small functions. Conditions: none. -/
import Derived.Test.YtffibnbnabppjaaDoorProg
import Derived.Test.YtffibnbnabppjaaDoorWWords
import Derived.Test.YtffibnbnabppjaaDoorWApart
import Derived.StillTailTactics
import Derived.Test.YtffibnbnabppjaaDoorXPl
import Derived.Lib.Hide
import Derived.Laws.BitsLemmas
import Derived.Laws.CopyRow
import Derived.Laws.CopyOwn
import Derived.Test.YtffibnbnabppjaaDoorWKept
import Derived.Lib.SmallJoins
/-! ## Base -/
namespace Go.Proofs.YtffibnbnabppjaaDoor.X
open Go.RowKit Go.Proofs.YtffibnbnabppjaaDoorW.PrintWords

abbrev okT : Nat → Prop := fun _ => True

/-! worlds -/
/-- a world behind w: nothing that stood has changed -/
structure Ext (w : World) where
  w' : World
  bel : Below w.heap.size w w'
theorem Ext.cell {w : World} {p : Addr} {v : Value} (h : w.cell? p = some v) (u : Ext w) : u.w'.cell? p = some v := pw_cell_below u.bel h
def Ext.drew1 (w : World) : Ext w := ⟨w.drew, below_drew (Below.refl _ _)⟩
instance (w : World) : Nonempty (Ext w) := ⟨Ext.drew1 w⟩
theorem Calls.ext {P : Program} {f : FuncId} {args : Array Value} {w : World} {u : Ext w} {v : Value}
    (h : Calls P f args u.w' fun e w' => e = .returned v ∧ Below u.w'.heap.size u.w' w') : Calls P f args u.w' fun e w'' => e = .returned v ∧ ∃ u' : Ext w, w'' = u'.w' :=
  h.mono fun _ w'' ⟨he, hb⟩ => ⟨he, ⟨w'', below_then u.bel u.bel.size hb⟩, rfl⟩
/-- A region that draws, whose operations read and call what changes nothing that stood: one walk. -/
theorem wp_region_ext {P : Program} {id : Nat} {Q : Exit → Act → World → Prop} {a : Act} {w : World} {l : List Oper} (hm : P.follows .mixedOrders = true) (hB : Region.lexB .any l.toArray = true)
    (h : wpQuiet P l.toArray (fun w' => ∃ u : Ext w, w' = u.w') (fun a' => ∀ u : Ext w, Q .normal a' u.w') l a) : (Code.region id l.toArray true).wp P Q a w := by
  refine wp_region_quiet (C := fun w' => ∃ u : Ext w, w' = u.w') hm hB ⟨Ext.drew1 w, rfl⟩ ?_
  have e : (fun a' => ∀ u : Ext w, Q .normal a' u.w') = (fun a' => ∀ w', (∃ u : Ext w, w' = u.w') → Q .normal a' w') := by
    funext a'
    exact propext ⟨fun h w' ⟨u, hu⟩ => hu ▸ h u, fun h u => h _ ⟨u, rfl⟩⟩
  rw [e] at h
  simpa using h
theorem name_world {P : Program} {c : Code} {Q : Exit → Act → World → Prop} {a : Act} {w : World} (h : ∀ W, W = w → c.wp P Q a W) : c.wp P Q a w := h _ rfl
theorem bcell {W w1 : World} (hb : Below W.heap.size W w1) : (∀ b o, b < W.heap.size → w1.cell? ⟨b, o, none⟩ = W.cell? ⟨b, o, none⟩) ∧ (∀ b o, b < W.heap.size → w1.frozen? ⟨b, o, none⟩ = W.frozen? ⟨b, o, none⟩) :=
  ⟨fun b o h => hb.cell (p := ⟨b, o, none⟩) h, fun b o h => hb.frozen (p := ⟨b, o, none⟩) h⟩
/-- one more step -/
theorem bthen {w w1 w2 : World} (h : Below w.heap.size w w1) (k : Below w1.heap.size w1 w2) : Below w.heap.size w w2 := below_then h h.size k

theorem ret_bool {a b : Bool} (h : a = b) : Ending.returned (.bool a) = .returned (.bool b) := by rw [h]
theorem vbool {a b : Bool} (h : a = true ↔ b = true) : Value.bool a = .bool b := by rw [Bool.eq_iff_iff.2 h]
theorem ret_int {k : IntKind} {a b : Int} (h : a = b) : Ending.returned (.int k a) = .returned (.int k b) := by rw [h]

/-! lists -/
theorem take_snoc {α : Type} {l : List α} {k : Nat} {x : α} (hx : l[k]? = some x) : l.take (k + 1) = l.take k ++ [x] := by
  obtain ⟨hlt, rfl⟩ := List.getElem?_eq_some_iff.1 hx
  exact List.take_succ_eq_append_getElem hlt
theorem drop_cons {α : Type} {l : List α} {k : Nat} {x : α} (hx : l[k]? = some x) : l.drop k = x :: l.drop (k + 1) := by
  obtain ⟨hlt, rfl⟩ := List.getElem?_eq_some_iff.1 hx
  exact List.drop_eq_getElem_cons hlt
theorem all_take_succ {α : Type} {p : α → Bool} {l : List α} {k : Nat} {x : α} (h : (l.take k).all p = true) (hx : l[k]? = some x) (hp : p x = true) : (l.take (k + 1)).all p = true := by
  rw [take_snoc hx, List.all_append, h]; simp [hp]
theorem all_bad {α : Type} {p : α → Bool} {l : List α} {k : Nat} {x : α} (hx : l[k]? = some x) (hp : p x = false) : l.all p = false := by
  obtain ⟨hlt, rfl⟩ := List.getElem?_eq_some_iff.1 hx
  exact List.all_eq_false.2 ⟨_, List.getElem_mem hlt, by simp [hp]⟩
theorem all_done {α : Type} {p : α → Bool} {l : List α} {k : Nat} (h : (l.take k).all p = true) (hk : ¬ k < l.length) : l.all p = true := by rwa [List.take_of_length_le (by omega)] at h
theorem any_take_succ {α : Type} {p : α → Bool} {l : List α} {k : Nat} {x : α} (h : (l.take k).any p = false) (hx : l[k]? = some x) (hp : p x = false) : (l.take (k + 1)).any p = false := by
  rw [take_snoc hx, List.any_append, h]; simp [hp]
theorem any_hit {α : Type} {p : α → Bool} {l : List α} {k : Nat} {x : α} (hx : l[k]? = some x) (hp : p x = true) : l.any p = true := by
  obtain ⟨hlt, rfl⟩ := List.getElem?_eq_some_iff.1 hx
  exact List.any_eq_true.2 ⟨_, List.getElem_mem hlt, hp⟩
theorem any_done {α : Type} {p : α → Bool} {l : List α} {k : Nat} (h : (l.take k).any p = false) (hk : ¬ k < l.length) : l.any p = false := by rwa [List.take_of_length_le (by omega)] at h

/-! kinds -/
def kTm : Kd Tm := Kd.iso (Kd.pair (Kd.int .i64) (Kd.int .i64)) (fun x : Tm => (x.f0, x.f1))
def kRw : Kd Rw := Kd.iso (Kd.pair (Kd.int .i64) (Kd.pair (Kd.int .i64) (Kd.pair kTm (Kd.int .i64)))) (fun x : Rw => (x.f0, x.f1, x.f2, x.f3))
def kIt : Kd It := Kd.iso (Kd.pair (Kd.int .i64) (Kd.pair (Kd.int .i64) (Kd.int .i64))) (fun x : It => (x.f0, x.f1, x.f2))
def kB : Kd Int := Kd.int .u8
def kI : Kd Int := Kd.int .i64
def vTm (t : Tm) : List Value := [.int .i64 t.f0, .int .i64 t.f1]
def vRw (r : Rw) : List Value := [.int .i64 r.f0, .int .i64 r.f1, .int .i64 r.f2.f0, .int .i64 r.f2.f1, .int .i64 r.f3]
def vIt (x : It) : List Value := [.int .i64 x.f0, .int .i64 x.f1, .int .i64 x.f2]
theorem kTm_M {w : World} {b : Nat} {ok : Nat → Prop} {x : Tm} {cs : List Value} : kTm.M w b ok x cs ↔ cs = vTm x := ⟨fun ⟨_, _, h, h1, h2⟩ => by subst h1; subst h2; exact h, fun h => ⟨_, _, h, rfl, rfl⟩⟩
theorem kTm_K {w : World} {x : Tm} {cs : List Value} : kTm.K w x cs ↔ cs = vTm x := ⟨fun ⟨_, _, h, h1, h2⟩ => by subst h1; subst h2; exact h, fun h => ⟨_, _, h, rfl, rfl⟩⟩
theorem kRw_M {w : World} {b : Nat} {ok : Nat → Prop} {x : Rw} {cs : List Value} : kRw.M w b ok x cs ↔ cs = vRw x := by
  constructor
  · rintro ⟨_, _, h, h1, ⟨_, _, h2, h3, ⟨_, _, h4, h5, h6⟩⟩⟩
    rw [kTm_M.1 h5, show _ = [Value.int .i64 x.f3] from h6] at h4; rw [h4, show _ = [Value.int .i64 x.f1] from h3] at h2; rw [h2, show _ = [Value.int .i64 x.f0] from h1] at h; exact h
  · rintro rfl
    exact ⟨_, _, rfl, rfl, ⟨_, _, rfl, rfl, ⟨_, _, rfl, kTm_M.2 rfl, rfl⟩⟩⟩
theorem kRw_K {w : World} {x : Rw} {cs : List Value} : kRw.K w x cs ↔ cs = vRw x := by
  constructor
  · rintro ⟨_, _, h, h1, ⟨_, _, h2, h3, ⟨_, _, h4, h5, h6⟩⟩⟩
    rw [kTm_K.1 h5, show _ = [Value.int .i64 x.f3] from h6] at h4; rw [h4, show _ = [Value.int .i64 x.f1] from h3] at h2; rw [h2, show _ = [Value.int .i64 x.f0] from h1] at h; exact h
  · rintro rfl
    exact ⟨_, _, rfl, rfl, ⟨_, _, rfl, rfl, ⟨_, _, rfl, kTm_K.2 rfl, rfl⟩⟩⟩
theorem kIt_M {w : World} {b : Nat} {ok : Nat → Prop} {x : It} {cs : List Value} : kIt.M w b ok x cs ↔ cs = vIt x := by
  constructor
  · rintro ⟨_, _, h, h1, ⟨_, _, h2, h3, h4⟩⟩
    rw [show _ = [Value.int .i64 x.f1] from h3, show _ = [Value.int .i64 x.f2] from h4] at h2; rw [h2, show _ = [Value.int .i64 x.f0] from h1] at h; exact h
  · rintro rfl
    exact ⟨_, _, rfl, rfl, ⟨_, _, rfl, rfl, rfl⟩⟩
theorem kIt_K {w : World} {x : It} {cs : List Value} : kIt.K w x cs ↔ cs = vIt x := by
  constructor
  · rintro ⟨_, _, h, h1, ⟨_, _, h2, h3, h4⟩⟩
    rw [show _ = [Value.int .i64 x.f1] from h3, show _ = [Value.int .i64 x.f2] from h4] at h2; rw [h2, show _ = [Value.int .i64 x.f0] from h1] at h; exact h
  · rintro rfl
    exact ⟨_, _, rfl, rfl, ⟨_, _, rfl, rfl, rfl⟩⟩

/-! a slice that reads as a list -/
def Sl {α : Type} (d : Kd α) (w : World) (v : Value) (xs : List α) : Prop := ∃ A c, v = .slice A xs.length c ∧ xs.length ≤ c ∧ d.C w A xs.length xs
section
variable {α : Type} {d : Kd α} {e : Nat} {w w1 wr : World} {base : Nat} {ok : Nat → Prop} {v : Value} {xs : List α} {A : Option Addr} {c : Nat}
theorem Sl.of_R (h : d.R e w base ok v xs) : Sl d w v xs := by obtain ⟨A, c, h1, h2, h3⟩ := Kd.R_reads h; exact ⟨A, c, h1, h2, h3⟩
theorem Sl.below (h : Sl d w v xs) (hb : Below w.heap.size w w1) : Sl d w1 v xs := by obtain ⟨A, c, h1, h2, h3⟩ := h; exact ⟨A, c, h1, h2, Kd.C_below h3 hb⟩
theorem Sl.mk' (h : d.C w A xs.length xs) (hc : xs.length ≤ c) : Sl d w (.slice A xs.length c) xs := ⟨A, c, rfl, hc, h⟩
theorem Sl.max (h : Sl d w v xs) : xs.length ≤ 9223372036854775807 := by obtain ⟨A, c, h1, h2, h3⟩ := h; exact h3.2.1
theorem Sl.nil (d : Kd α) (w : World) : Sl d w (.slice none 0 0) [] := ⟨none, 0, rfl, Nat.le_refl _, Kd.C_nil d w⟩

theorem cget (h : d.C w A xs.length xs) (hb : Below w.heap.size w wr) {k : Nat} (hk : k < xs.length) : ∃ ad x cs, A = some ad ∧ xs[k]? = some x ∧ d.K wr x cs ∧ ∀ j u, cs[j]? = some u → wr.cell? (ad.add (k * d.sz + j)) = some u := by
  obtain ⟨ad, e, hc⟩ := h.2.2 (by omega)
  obtain ⟨cs, _, hK, hcell⟩ := hc k _ (List.getElem?_eq_getElem hk)
  exact ⟨ad, _, cs, e, List.getElem?_eq_getElem hk, d.K_below hb hK, fun j u hu => pw_cell_below hb (hcell j u hu)⟩
end
section
variable {w wr : World} {A : Option Addr} {k : Nat}
theorem rdTm {xs : List Tm} (h : kTm.C w A xs.length xs) (hb : Below w.heap.size w wr) (hk : k < xs.length) : ∃ ad x, A = some ad ∧ Aside0 (xs[k]? = some x) ∧ wr.cell? (ad.add (k * 2)) = some (.int .i64 x.f0) ∧ wr.cell? ⟨(ad.add (k * 2)).block, (ad.add (k * 2)).off + 1, none⟩ = some (.int .i64 x.f1) := by
  obtain ⟨ad, x, cs, e, hx, hK, hc⟩ := cget h hb hk
  rw [kTm_K] at hK; subst hK
  exact ⟨ad, x, e, ⟨hx⟩, hc 0 _ rfl, by rw [← add_field _ _ 1 (by omega)]; exact hc 1 _ rfl⟩
/-- the first element, whose address the walk spells without a sum -/
theorem rdTm0 {xs : List Tm} (h : kTm.C w A xs.length xs) (hb : Below w.heap.size w wr) (hk : 0 < xs.length) : ∃ ad x, A = some ad ∧ Aside0 (xs[0]? = some x) ∧ wr.cell? ad = some (.int .i64 x.f0) ∧ wr.cell? ⟨ad.block, ad.off + 1, none⟩ = some (.int .i64 x.f1) := by
  obtain ⟨ad, x, e, HX, h0, h1⟩ := rdTm h hb hk
  have ea : ad.add (0 * 2) = ad := by simp [Addr.add]
  rw [ea] at h0 h1
  exact ⟨ad, x, e, HX, h0, h1⟩
theorem rdRw {xs : List Rw} (h : kRw.C w A xs.length xs) (hb : Below w.heap.size w wr) (hk : k < xs.length) : ∃ ad x, A = some ad ∧ Aside0 (xs[k]? = some x) ∧ wr.cell? (ad.add (k * 5)) = some (.int .i64 x.f0) ∧ wr.cell? ⟨(ad.add (k * 5)).block, (ad.add (k * 5)).off + 1, none⟩ = some (.int .i64 x.f1) ∧ wr.cell? ⟨(ad.add (k * 5)).block, (ad.add (k * 5)).off + 2, none⟩ = some (.int .i64 x.f2.f0) ∧ wr.cell? ⟨(ad.add (k * 5)).block, (ad.add (k * 5)).off + 3, none⟩ = some (.int .i64 x.f2.f1) ∧ wr.cell? ⟨(ad.add (k * 5)).block, (ad.add (k * 5)).off + 4, none⟩ = some (.int .i64 x.f3) := by
  obtain ⟨ad, x, cs, e, hx, hK, hc⟩ := cget h hb hk
  rw [kRw_K] at hK; subst hK
  exact ⟨ad, x, e, ⟨hx⟩, hc 0 _ rfl, by rw [← add_field _ _ 1 (by omega)]; exact hc 1 _ rfl, by rw [← add_field _ _ 2 (by omega)]; exact hc 2 _ rfl, by rw [← add_field _ _ 3 (by omega)]; exact hc 3 _ rfl, by rw [← add_field _ _ 4 (by omega)]; exact hc 4 _ rfl⟩
theorem rdIt {xs : List It} (h : kIt.C w A xs.length xs) (hb : Below w.heap.size w wr) (hk : k < xs.length) : ∃ ad x, A = some ad ∧ Aside0 (xs[k]? = some x) ∧ wr.cell? (ad.add (k * 3)) = some (.int .i64 x.f0) ∧ wr.cell? ⟨(ad.add (k * 3)).block, (ad.add (k * 3)).off + 1, none⟩ = some (.int .i64 x.f1) ∧ wr.cell? ⟨(ad.add (k * 3)).block, (ad.add (k * 3)).off + 2, none⟩ = some (.int .i64 x.f2) := by
  obtain ⟨ad, x, cs, e, hx, hK, hc⟩ := cget h hb hk
  rw [kIt_K] at hK; subst hK
  exact ⟨ad, x, e, ⟨hx⟩, hc 0 _ rfl, by rw [← add_field _ _ 1 (by omega)]; exact hc 1 _ rfl, by rw [← add_field _ _ 2 (by omega)]; exact hc 2 _ rfl⟩
/-- a slice of slices -/
theorem rdSl {α : Type} {d : Kd α} {e : Nat} {xs : List (List α)} (h : (Kd.slice e d).C w A xs.length xs) (hb : Below w.heap.size w wr) (hk : k < xs.length) : ∃ ad x A1 c1, A = some ad ∧ Aside0 (xs[k]? = some x) ∧ wr.cell? (ad.add k) = some (.slice A1 x.length c1) ∧ Aside0 (Sl d wr (.slice A1 x.length c1) x) := by
  obtain ⟨ad, x, cs, e, hx, ⟨A1, c1, rfl, h2, h3⟩, hc⟩ := cget h hb hk
  have h0 := hc 0 _ rfl
  rw [Nat.add_zero, show (Kd.slice _ d).sz = 1 from rfl, Nat.mul_one] at h0
  exact ⟨ad, x, A1, c1, e, ⟨hx⟩, h0, ⟨⟨A1, c1, rfl, h2, h3⟩⟩⟩
theorem rdB {xs : List Int} (h : kB.C w A xs.length xs) (hb : Below w.heap.size w wr) (hk : k < xs.length) : ∃ ad x, A = some ad ∧ Aside0 (xs[k]? = some x) ∧ wr.cell? (ad.add k) = some (.int .u8 x) := by
  obtain ⟨ad, x, cs, e, hx, hK, hc⟩ := cget h hb hk
  obtain rfl : cs = [.int .u8 x] := hK
  have h0 := hc 0 _ rfl
  rw [Nat.add_zero, show kB.sz = 1 from rfl, Nat.mul_one] at h0
  exact ⟨ad, x, e, ⟨hx⟩, h0⟩
end

section
variable {w wr : World} {A : Option Addr} {k : Nat}
theorem rdI {xs : List Int} (h : kI.C w A xs.length xs) (hb : Below w.heap.size w wr) (hk : k < xs.length) : ∃ ad x, A = some ad ∧ Aside0 (xs[k]? = some x) ∧ wr.cell? (ad.add k) = some (.int .i64 x) := by
  obtain ⟨ad, x, cs, e, hx, hK, hc⟩ := cget h hb hk
  obtain rfl : cs = [.int .i64 x] := hK
  have h0 := hc 0 _ rfl
  rw [Nat.add_zero, show kI.sz = 1 from rfl, Nat.mul_one] at h0
  exact ⟨ad, x, e, ⟨hx⟩, h0⟩
end
/-- a literal of whole numbers -/
theorem litI (W : World) (xs : List Int) (t : TypeId) (hx : xs.length ≤ 1000) : kI.C (W.alloc (.cells (xs.map (Value.int .i64)).toArray t)) (some ⟨W.heap.size, 0, none⟩) xs.length xs := by
  refine ⟨rfl, by omega, fun _ => ⟨_, rfl, fun j p hj => ⟨[.int .i64 p], rfl, rfl, fun i u hu => ?_⟩⟩⟩
  have hi : i = 0 := by have := (List.getElem?_eq_some_iff.1 hu).1; simp at this; omega
  subst hi
  have : u = .int .i64 p := by simpa using hu.symm
  subst this
  rw [Nat.add_zero, show kI.sz = 1 from rfl, Nat.mul_one, add_plain, blk_cell (blk_new W _)]
  simp [hj]

/-! what stands for an element in a row of one's own; rows made, stored into, appended to -/
section
variable {P : Program} {ops : Array Oper} {rest : List Oper} {o : Oper} {a : Act} {Q : Exit → Act → World → Prop} {α : Type}
/-- out[k] = x, the whole element -/
theorem storeEl (d : Kd α) {w0 W : World} {base : Nat} (hN : o.dst = none) (hgd : o.guard = none) {t : TypeId} {p x : Operand} (ho : o.op = .store t p x) {e g n cap o' : Nat} (k : Nat) {xs : List α} (x' : α) (cs : List Value) {ok okp : Nat → Prop}
    (haddr : a.eval p = .pointer (some ⟨g, o', none⟩)) (hoff : o' = k * d.sz) (hu : (a.eval x).cells.toList = cs) (ht : (P.info? t).map (·.size) = some d.sz)
    (HO : d.R e W base ok (.slice (some ⟨g, 0, none⟩) n cap) xs) (hi : k < n) (hM : d.M W base okp x' cs) (hokp : ∀ q, okp q → ok q ∧ q ≠ g) (HB : Below base w0 W)
    (h : ∀ w1, d.R e w1 base ok (.slice (some ⟨g, 0, none⟩) n cap) (xs.set k x') → Below base w0 w1 → W.grownBy w1 (some g) → wpList P ops Q rest a w1) : wpList P ops Q (o :: rest) a W := by
  have hl := d.K_len (d.K_of_M hM)
  obtain ⟨c, hcl, _, hcc, _⟩ := Kd.R_elem HO x' (k : Int) (by omega) (by omega)
  simp only [Int.toNat_natCast] at hcc
  refine Kd.R_store d base hN hgd t p x ho e (k : Int) 0 xs x' _ cs c ok okp haddr (by simpa using hoff) rfl hu (by rw [hl]; exact ht) (d.K_one (d.K_of_M hM)) HO (by omega) (by omega) hcl (by simpa using hcc) (by omega) ?_ hokp HB (by simpa using h)
  rw [List.take_zero, List.nil_append, Nat.zero_add, hl, List.drop_of_length_le (by omega), List.append_nil]
  exact hM
end
section
variable {P : Program} {ops : Array Oper} {rest : List Oper} {o : Oper} {a : Act} {Q : Exit → Act → World → Prop} {α : Type}
/-- out[k] = x, where x leads to rows of its own that are younger than N, and all that out led to is elder -/
theorem storeElS (d : Kd α) {w0 W : World} {base N : Nat} (hN : o.dst = none) (hgd : o.guard = none) {t : TypeId} {p x : Operand} (ho : o.op = .store t p x) {e g n cap o' : Nat} (k : Nat) {xs : List α} (x' : α) (cs : List Value)
    (haddr : a.eval p = .pointer (some ⟨g, o', none⟩)) (hoff : o' = k * d.sz) (hu : (a.eval x).cells.toList = cs) (ht : (P.info? t).map (·.size) = some d.sz)
    (HO : Kd.S d e W base (fun k => k < N) (.slice (some ⟨g, 0, none⟩) n cap) xs) (hn : xs.length = n) (hi : k < n) (hM : d.M W base (fun k => N ≤ k) x' cs) (HB : Below base w0 W)
    (h : ∀ w1, Kd.S d e w1 base okT (.slice (some ⟨g, 0, none⟩) n cap) (xs.set k x') → Below base w0 w1 → W.grownBy w1 (some g) → wpList P ops Q rest a w1) : wpList P ops Q (o :: rest) a W := by
  obtain ⟨f, hf, HT⟩ := Kd.S_tag HO k (fun k => N ≤ k) (fun _ h1 h2 => by omega)
  have hg : g < N := HT.1 g rfl
  refine storeEl (Kd.tag f d) hN hgd ho k (x', k) cs (okp := fun q => N ≤ q) haddr hoff hu ht (Kd.R_mono HT (fun _ _ => trivial)) hi (d.M_mono (fun q hq => ⟨hq, hf q hq⟩) hM) (fun q hq => ⟨trivial, by omega⟩) HB (fun w1 h1 hb hgr => h w1 ⟨f, ?_⟩ hb hgr)
  have e : xs.zipIdx.set k (x', k) = (xs.set k x').zipIdx := by
    apply List.ext_getElem?
    intro i
    rw [List.getElem?_zipIdx, List.getElem?_set, List.getElem?_set, List.length_zipIdx, List.getElem?_zipIdx]
    by_cases hk : k = i
    · subst hk
      rw [if_pos rfl, if_pos rfl, if_pos (by omega), if_pos (by omega)]
      simp
    · rw [if_neg hk, if_neg hk]
  rw [e] at h1
  exact h1
end
theorem formR {α : Type} {d : Kd α} {e : Nat} {w : World} {base : Nat} {ok : Nat → Prop} {v : Value} {xs : List α} {n : Nat} (h : d.R e w base ok v xs) (hn : xs.length = n) (hp : 0 < n) : ∃ g cap, v = .slice (some ⟨g, 0, none⟩) n cap ∧ base ≤ g ∧ g < w.heap.size := by
  subst hn
  obtain ⟨g, cap, h1, h2, h3, _⟩ := Kd.R_form h hp
  exact ⟨g, cap, h1, h2, h3⟩
/-- a struct that lies in memory is handed back -/
theorem ret_cell {P : Program} {fn : Func} {R : Ending → World → Prop} {a : Act} {w : World} {p : Tmp} {ty : TypeId} {g : Nat} {cs : Array Value} {d : TypeDesc} (h : fn.results = #[.cell p ty]) (hp : a.tmps.getD p undef = .pointer (some ⟨g, 0, none⟩)) (hd : a.defers = [])
    (hg : w.heap[g]? = some (.cells cs ty (0, 0))) (hu : P.underlying ty = some d) (hk : (match d with | .struct _ | .array _ _ => true | _ => false) = true) (hi : (P.info? ty).map (·.size) = some cs.size) (hR : R (.returned (.agg cs)) w) : bodyPost P fn R .ret a w :=
  bodyPost_ret (results_cell_row h _ _ g ty cs (0, 0) d hp hg hu hk hi) hd hR
theorem blk2 {w : World} {g : Nat} {t : TypeId} {z0 z1 : Value} (h : w.heap[g]? = some (.cells #[z0, z1] t (0, 0))) (u0 u1 : Value) : ((w.setCell ⟨g, 0, none⟩ u0).setCell ⟨g, 1, none⟩ u1).heap[g]? = some (.cells #[u0, u1] t (0, 0)) := by simpa using blk_set (blk_set h 0 u0) 1 u1
theorem blk3 {w : World} {g : Nat} {t : TypeId} {z0 z1 z2 : Value} (h : w.heap[g]? = some (.cells #[z0, z1, z2] t (0, 0))) (u0 u1 u2 : Value) : (((w.setCell ⟨g, 0, none⟩ u0).setCell ⟨g, 1, none⟩ u1).setCell ⟨g, 2, none⟩ u2).heap[g]? = some (.cells #[u0, u1, u2] t (0, 0)) := by simpa using blk_set (blk_set (blk_set h 0 u0) 1 u1) 2 u2
theorem blk5 {w : World} {g : Nat} {t : TypeId} {z0 z1 z2 z3 z4 : Value} (h : w.heap[g]? = some (.cells #[z0, z1, z2, z3, z4] t (0, 0))) (u0 u1 u2 u3 u4 : Value) : (((((w.setCell ⟨g, 0, none⟩ u0).setCell ⟨g, 1, none⟩ u1).setCell ⟨g, 2, none⟩ u2).setCell ⟨g, 3, none⟩ u3).setCell ⟨g, 4, none⟩ u4).heap[g]? = some (.cells #[u0, u1, u2, u3, u4] t (0, 0)) := by simpa using blk_set (blk_set (blk_set (blk_set (blk_set h 0 u0) 1 u1) 2 u2) 3 u3) 4 u4
theorem formS {α : Type} {d : Kd α} {e : Nat} {w : World} {base : Nat} {ok : Nat → Prop} {v : Value} {xs : List α} {n : Nat} (h : Kd.S d e w base ok v xs) (hn : xs.length = n) (hp : 0 < n) : ∃ g cap, v = .slice (some ⟨g, 0, none⟩) n cap ∧ base ≤ g ∧ g < w.heap.size := formR (Kd.S_R h) hn hp
theorem blk_two (w : World) (A B : Obj) : ((w.alloc A).alloc B).heap[w.heap.size + 1]? = some B := by
  have := blk_new (w.alloc A) B
  simpa using this
theorem set_next {α : Type} {l : List α} {k : Nat} {x z : α} (hx : l[k]? = some x) : (l.take k ++ List.replicate (l.length - k) z).set k x = l.take (k + 1) ++ List.replicate (l.length - (k + 1)) z := by
  obtain ⟨hlt, rfl⟩ := List.getElem?_eq_some_iff.1 hx
  rw [List.set_append_right _ _ (by rw [List.length_take]; omega), List.length_take, show k - min k l.length = 0 by omega, show l.length - k = (l.length - (k + 1)) + 1 by omega, List.replicate_succ, List.set_cons_zero, List.take_succ_eq_append_getElem hlt, List.append_assoc]
  rfl

theorem infoI : (Tryd.prog.info? 3).map (fun i => (i.zero, i.size, i.bytes)) = some (some (.int .i64 0), 1, 8) := by kernel_rfl
section
variable {ops : Array Oper} {rest : List Oper} {o : Oper} {a : Act} {Q : Exit → Act → World → Prop}
end

/-! what a call answers -/
/-- a value; nothing that stood has changed -/
def RetV (w : World) (v : Value) (e : Ending) (w' : World) : Prop := e = .returned v ∧ Below w.heap.size w w'
theorem RetV.mk {w w' : World} {u v : Value} (h : u = v) (hb : Below w.heap.size w w') : RetV w v (.returned u) w' := ⟨by rw [h], hb⟩
/-- a slice of its own -/
def RetR {α : Type} (d : Kd α) (e : Nat) (w : World) (xs : List α) (en : Ending) (w' : World) : Prop := ∃ v, en = .returned v ∧ d.R e w' w.heap.size okT v xs ∧ Below w.heap.size w w'
theorem RetR.mk {α : Type} {d : Kd α} {e : Nat} {w w' : World} {xs : List α} {v : Value} (h : d.R e w' w.heap.size okT v xs) (hb : Below w.heap.size w w') : RetR d e w xs (.returned v) w' := ⟨v, rfl, h, hb⟩
theorem Calls.extV {P : Program} {f : FuncId} {args : Array Value} {w : World} {u : Ext w} {v : Value} (h : Calls P f args u.w' (RetV u.w' v)) : Calls P f args u.w' fun e w'' => e = .returned v ∧ ∃ u' : Ext w, w'' = u'.w' := Calls.ext h
end Go.Proofs.YtffibnbnabppjaaDoor.X

/-! ## Times -/
namespace Go.Proofs.YtffibnbnabppjaaDoor.X
open Go.RowKit Go.Proofs.YtffibnbnabppjaaDoorW.PrintWords
set_option linter.unusedVariables false
set_option linter.unusedSimpArgs false

set_option maxRecDepth 100000 in
set_option maxHeartbeats 400000 in
theorem spec_l6In (n lo hi : Int) (w : World) : Calls Tryd.prog 21 #[.int .i64 n, .int .i64 lo, .int .i64 hi] w fun e w' => e = .returned (.bool (decide (lo ≤ n) && decide (n ≤ hi))) ∧ w = w' := by
  have HB := Aside0.mk (Below.refl w.heap.size w)
  go_enter Tryd.func21, Tryd.ntmps21
  go_wp2
  all_goals (go_ret; exact ⟨ret_bool (by first | (simp [*]; done) | (simp [*]; omega)), rfl⟩)
end Go.Proofs.YtffibnbnabppjaaDoor.X

/-! ## Times2 -/
namespace Go.Proofs.YtffibnbnabppjaaDoor.X
open Go.RowKit Go.Proofs.YtffibnbnabppjaaDoorW.PrintWords
set_option linter.unusedVariables false
set_option linter.unusedSimpArgs false

end Go.Proofs.YtffibnbnabppjaaDoor.X

/-! ## Rows -/
namespace Go.Proofs.YtffibnbnabppjaaDoor.X
open Go.RowKit Go.Proofs.YtffibnbnabppjaaDoorW.PrintWords
set_option linter.unusedVariables false
set_option linter.unusedSimpArgs false

end Go.Proofs.YtffibnbnabppjaaDoor.X

/-! ## Rows2 -/
namespace Go.Proofs.YtffibnbnabppjaaDoor.X
open Go.RowKit Go.Proofs.YtffibnbnabppjaaDoorW.PrintWords
set_option linter.unusedVariables false
set_option linter.unusedSimpArgs false

end Go.Proofs.YtffibnbnabppjaaDoor.X

/-! ## SetOk -/
namespace Go.Proofs.YtffibnbnabppjaaDoor.X
open Go.RowKit Go.Proofs.YtffibnbnabppjaaDoorW.PrintWords
set_option linter.unusedVariables false
set_option linter.unusedSimpArgs false

end Go.Proofs.YtffibnbnabppjaaDoor.X

/-! ## Ev -/
namespace Go.Proofs.YtffibnbnabppjaaDoor.X
open Go.RowKit

/-- from some round on it answers r -/
def Ev {α : Type} (f : Nat → Option α) (r : α) : Prop := ∃ K, ∀ k, K ≤ k → f k = some r
theorem Ev.bind {α β : Type} {f : Nat → Option α} {a : α} {g : Nat → α → Option β} {b : β} (h : Ev f a) (h2 : Ev (fun k => g k a) b) : Ev (fun k => (f k).bind (g k)) b := by
  obtain ⟨K, h⟩ := h
  obtain ⟨L, h2⟩ := h2
  refine ⟨max K L, fun k hk => ?_⟩
  show (f k).bind (g k) = some b
  rw [h k (by omega)]
  exact h2 k (by omega)
theorem Ev.pure {α : Type} (a : α) : Ev (fun _ => some a) a := ⟨0, fun _ _ => rfl⟩
theorem Ev.all {α : Type} {f : Nat → Option α} {a : α} (h : ∀ k, f k = some a) : Ev f a := ⟨0, fun k _ => h k⟩
theorem Ev.succ {α : Type} {f : Nat → Option α} {a : α} (h : Ev (fun k => f (k + 1)) a) : Ev f a := by
  obtain ⟨K, h⟩ := h
  refine ⟨K + 1, fun k hk => ?_⟩
  obtain ⟨j, rfl⟩ : ∃ j, k = j + 1 := ⟨k - 1, by omega⟩
  exact h j (by omega)
theorem Ev.of {α : Type} {f g : Nat → Option α} {a : α} (h : Ev f a) (e : ∀ k, g k = f k) : Ev g a := by
  obtain ⟨K, h⟩ := h
  exact ⟨K, fun k hk => by rw [e]; exact h k hk⟩
theorem Ev.get {α : Type} {f : Nat → Option α} {a : α} (h : Ev f a) : ∃ k, f k = some a := by
  obtain ⟨K, h⟩ := h
  exact ⟨K, h K (Nat.le_refl _)⟩
theorem wsmall {n : Int} (h0 : 0 ≤ n) (h1 : n < 9223372036854775808) : wrap64 n = n := by unfold wrap64; omega
theorem wnext {i m : Nat} (h : i < m) (hm : m ≤ 1152921504606846976) : wrap64 ((i : Int) + 1) = ((i + 1 : Nat) : Int) := by rw [wsmall (by omega) (by omega)]; omega
theorem getD_drop {α : Type} {l : List α} {i : Nat} (h : i < l.length) (z : α) : l.drop i = l.getD i z :: l.drop (i + 1) := by
  rw [List.drop_eq_getElem_cons h]
  simp [List.getD, h]
theorem getD_some {α : Type} {l : List α} {i : Nat} (h : i < l.length) (z : α) : l[i]? = some (l.getD i z) := by
  rw [List.getElem?_eq_getElem h]
  simp [List.getD, h]
theorem wraps_i64 (n : Int) (h0 : 0 ≤ n) (h1 : n < 2 ^ 63) : IntKind.i64.wrap n = n := by rw [IntKind.wrap_i64]; omega
theorem bits_xor_nonneg (n m : Nat) (hn : n < 9223372036854775808) (hm : m < 9223372036854775808) : 0 ≤ Go.bits .xor .i64 (n : Int) (m : Int) := by
  have hn' : n % 2 ^ IntKind.i64.bits = n := Nat.mod_eq_of_lt (by rw [show IntKind.i64.bits = 64 from rfl]; omega)
  have hm' : m % 2 ^ IntKind.i64.bits = m := Nat.mod_eq_of_lt (by rw [show IntKind.i64.bits = 64 from rfl]; omega)
  have hx : n ^^^ m < 2 ^ 63 := Nat.xor_lt_two_pow (by omega) (by omega)
  simp only [bits, BitVec.ofInt_natCast, BitVec.toNat_xor, BitVec.toNat_ofNat, hn', hm']
  rw [wraps_i64 _ (Int.natCast_nonneg _) (by omega)]
  exact Int.natCast_nonneg _
end Go.Proofs.YtffibnbnabppjaaDoor.X

/-! ## Copy -/
namespace Go.Proofs.YtffibnbnabppjaaDoor.X
open Go.RowKit Go.Proofs.YtffibnbnabppjaaDoorW.PrintWords
set_option linter.unusedVariables false
set_option linter.unusedSimpArgs false

theorem reps_one {α : Type} {d : Kd α} {w : World} {xs : List α} {cs : List Value} (h : Reps (d.K w) d.sz xs cs) (hs : 0 < d.sz) : ∀ u ∈ cs, u.oneCell' = true := by
  intro u hu
  obtain ⟨j, hj, rfl⟩ := List.getElem_of_mem hu
  have hl := h.1
  have hq : j / d.sz < xs.length := Nat.div_lt_of_lt_mul (by rw [Nat.mul_comm, ← hl]; exact hj)
  have hK := h.2 (j / d.sz) _ (List.getElem?_eq_getElem hq)
  refine d.K_one hK _ ?_
  have hm := Nat.mod_lt j hs
  have he : ((cs.drop (j / d.sz * d.sz)).take d.sz)[j % d.sz]? = some cs[j] := by
    rw [List.getElem?_take_of_lt hm, List.getElem?_drop, Nat.div_add_mod' j d.sz, List.getElem?_eq_getElem hj]
  exact List.mem_of_getElem? he
section
variable {P : Program} {ops : Array Oper} {rest : List Oper} {o : Oper} {a : Act} {Q : Exit → Act → World → Prop} {α : Type}
theorem copyAll (d : Kd α) {w0 W : World} {base : Nat} (hgd : o.guard = none) {x y : Operand} {t e : TypeId} (ho : o.op = .call { callee := .builtin .copy, args := #[x, y], argTypes := #[t, t] })
    (ht : P.underlying t = some (.slice e)) (hsz : (P.info? e).map (·.size) = some d.sz) (hs0 : 0 < d.sz) (hflat : ∀ w w' b ok p cs, d.K w p cs → d.M w' b ok p cs) {xs zs : List α} {v : Value} (hv : a.eval x = v)
    (HO : d.R e W base okT v zs) (hl : zs.length = xs.length) (HS : Sl d W (a.eval y) xs) (HB : Below base w0 W)
    (h : ∀ w1, d.R e w1 base okT v xs → Below base w0 w1 → wpList P ops Q rest (a.put o.dst (goInt xs.length)) w1) : wpList P ops Q (o :: rest) a W := by
  obtain ⟨A, c, hy, hc, hC⟩ := HS
  obtain ⟨hok, inner, hown, hr⟩ := HO
  rcases hown.2 with ⟨rfl, hn⟩ | ⟨g, cap, cur, rfl, hbg, hg, hnc, hcm, hcs, htk⟩
  · obtain rfl : xs = [] := List.eq_nil_of_length_eq_zero (by omega)
    obtain rfl : zs = [] := List.eq_nil_of_length_eq_zero (by omega)
    cases hq : P.info? e with
    | none => simp [hq] at hsz
    | some i =>
      have hi : i.size = d.sz := by simpa [hq] using hsz
      refine wpList_plain hgd fun K hK => ?_
      have hrun : (Builtin.copy_ #[t, t] o.type #[.slice none 0 0, .slice A 0 c]).run P W = .ok (goInt 0) W := by
        cases A <;> simp [Builtin.copy_, run_underlying ht, Builtin.lenOf, Builtin.firstCells, sizeOf, typeInfo, hq, loadCells, loadCellsFrom, Result.andThen]
      unfold Oper.wp
      simp only [List.length_nil] at hy
      simp [execOp, ho, resolve, invoke, builtin, hv, hy, hrun, Result.andThen]
      exact hK _ _ (h W (Kd.R_nil _ _ _ _ _) HB)
  · by_cases h0 : xs.length = 0
    · obtain rfl : xs = [] := List.eq_nil_of_length_eq_zero h0
      obtain rfl : zs = [] := List.eq_nil_of_length_eq_zero (by omega)
      cases hq : P.info? e with
      | none => simp [hq] at hsz
      | some i =>
        have hi : i.size = d.sz := by simpa [hq] using hsz
        refine wpList_plain hgd fun K hK => ?_
        have hrun : (Builtin.copy_ #[t, t] o.type #[.slice (some ⟨g, 0, none⟩) 0 cap, .slice A 0 c]).run P W = .ok (goInt 0) W := by
          cases A <;> simp [Builtin.copy_, run_underlying ht, Builtin.lenOf, Builtin.firstCells, sizeOf, typeInfo, hq, loadCells, loadCellsFrom, storeCells, Result.andThen]
        unfold Oper.wp
        simp only [List.length_nil] at hy hv
        simp [execOp, ho, resolve, invoke, builtin, hv, hy, hrun, Result.andThen]
        exact hK _ _ (h W ⟨hok, inner, hown, hr⟩ HB)
    · obtain ⟨ad, rfl, hcell⟩ := hC.2.2 (by omega)
      obtain ⟨cs, hreps, hcc⟩ := ReadsRow.inner_ hC
      have hcl := hreps.1
      have h1 := reps_one hreps hs0
      have hle : zs.length * d.sz ≤ cap * d.sz := Nat.mul_le_mul_right _ hnc
      have hfit : 0 + 0 + cs.length ≤ cur.size := by rw [hcl, hcs, ← hl]; omega
      have hst := run_storeCells_at P g 0 e cs 0 cur W hg hfit h1
      have hld := run_loadCells_list (P := P) W ad cs hcc
      cases hq : P.info? e with
      | none => simp [hq] at hsz
      | some i =>
        have hi : i.size = d.sz := by simpa [hq] using hsz
        refine wpList_plain hgd fun K hK => ?_
        have hrun : (Builtin.copy_ #[t, t] o.type #[.slice (some ⟨g, 0, none⟩) zs.length cap, .slice (some ad) xs.length c]).run P W = .ok (goInt xs.length) (W.setRow g (cur.toList.take 0 ++ cs ++ cur.toList.drop (0 + cs.length)).toArray) := by
          rw [hcl] at hld
          simp only [Nat.zero_add, Nat.add_zero] at hst ⊢
          simp [Builtin.copy_, run_underlying ht, Builtin.lenOf, Builtin.firstCells, sizeOf, typeInfo, hq, hi, hl, hld]
          have hst' := hst
          simp at hst'
          simp [hst', Result.andThen]
        unfold Oper.wp
        simp [execOp, ho, resolve, invoke, builtin, hv, hy, hrun, Result.andThen]
        refine hK _ _ (h _ ⟨hok, cs, ⟨by rw [hcl], .inr ⟨g, cap, _, by rw [hl], hbg, setRow_heap W g cur _ e _ hg, by omega, hcm, ?_, ?_⟩⟩, ?_⟩ (Go.below_setRow HB hbg _))
        · simp; rw [hcl] at *; omega
        · simp [hcl]
        · exact ⟨hcl, fun j p hj => hflat _ _ _ _ _ _ (hreps.2 j p hj)⟩
end
end Go.Proofs.YtffibnbnabppjaaDoor.X

/-! ## Exact -/
namespace Go.Proofs.YtffibnbnabppjaaDoor.X
open Go.RowKit Go.Proofs.YtffibnbnabppjaaDoorW.PrintWords
set_option linter.unusedVariables false
set_option linter.unusedSimpArgs false

end Go.Proofs.YtffibnbnabppjaaDoor.X

/-! ## Mark2 -/
namespace Go.Proofs.YtffibnbnabppjaaDoor.X
open Go.RowKit Go.Proofs.YtffibnbnabppjaaDoorW.PrintWords
set_option linter.unusedVariables false
set_option linter.unusedSimpArgs false

end Go.Proofs.YtffibnbnabppjaaDoor.X

/-! ## Opens -/
namespace Go.Proofs.YtffibnbnabppjaaDoor.X
open Go.RowKit Go.ChangeShapes Go.WideShapes Go.WideElems Go.Deep Go.Proofs.YtffibnbnabppjaaDoorW.PrintWords
set_option linter.unusedVariables false
set_option linter.unusedSimpArgs false

/-- data of type t reads as a value of this kind -/
def Opens {α : Type} (t : TypeId) (d : Kd α) : Prop := ∀ (H : Type) (enc : TypeId × Value → H) (w : World) (base : Nat) (spare : Nat → Bool) (held : Bool) (fuel : Nat) (cs : List Value) (x : DataW H × List MemPlace),
  DataW.trod enc Tryd.prog w base spare held fuel t cs = some x → ∃ a : α, d.K w a cs
theorem cells1 : Tryd.prog.cellsOf 3 = 1 := by kernel_rfl
theorem opens_int {H : Type} {enc : TypeId × Value → H} {w : World} {base : Nat} {spare : Nat → Bool} {held : Bool} {fuel : Nat} {cs : List Value} {x : DataW H × List MemPlace}
    (h : DataW.trod enc Tryd.prog w base spare held fuel 3 cs = some x) : ∃ n, cs = [.int .i64 n] := by
  obtain ⟨n, h1, _, _⟩ := DataW.trod_int Tryd.underlying3 h
  exact ⟨n, h1⟩
theorem opens_slice {α : Type} {t e : TypeId} {d : Kd α} (ht : Tryd.prog.underlying t = some (.slice e)) (hc : Tryd.prog.cellsOf e = d.sz) (ho : Opens e d) : Opens t (Kd.slice e d) := by
  intro H enc w base spare held fuel cs x h
  rcases open_slice ht h with ⟨rfl, _⟩ | ⟨a, len, cap, m, n, D, Pl, rfl, _, hl, hm, hmm, _, hel⟩
  · exact ⟨[], none, 0, rfl, Nat.le_refl _, Kd.C_nil d w⟩
  · have hlm : len ≤ m := by rw [hmm]; split <;> omega
    have : ∀ i, ∃ xi : Option α, i < len → ∃ y, xi = some y ∧ ∃ cs', w.cells? base (a.add (i * Tryd.prog.cellsOf e)) (Tryd.prog.cellsOf e) = some cs' ∧ d.K w y cs' := fun i => by
      by_cases hi : i < len
      · obtain ⟨cs', h1, h2⟩ := hel i (by omega)
        obtain ⟨y, hy⟩ := ho _ _ _ _ _ _ _ _ _ h2
        exact ⟨some y, fun _ => ⟨y, rfl, cs', h1, hy⟩⟩
      · exact ⟨none, fun h => absurd h hi⟩
    let f : Nat → Option α := fun i => (this i).choose
    have hf : ∀ i, i < len → ∃ y, f i = some y ∧ ∃ cs', w.cells? base (a.add (i * Tryd.prog.cellsOf e)) (Tryd.prog.cellsOf e) = some cs' ∧ d.K w y cs' := fun i hi => (this i).choose_spec hi
    have hxs : ∀ l, l ≤ len → ∃ xs : List α, xs.length = l ∧ ∀ j, j < l → xs[j]? = f j := fun l => by
      induction l with
      | zero => exact fun _ => ⟨[], rfl, fun j h => by omega⟩
      | succ l ih =>
        intro hl'
        obtain ⟨xs, h1, h2⟩ := ih (by omega)
        obtain ⟨y, hy, _⟩ := hf l (by omega)
        refine ⟨xs ++ [y], by simp [h1], fun j hj => ?_⟩
        by_cases hjl : j < l
        · rw [List.getElem?_append_left (by omega)]; exact h2 j hjl
        · have : j = l := by omega
          subst this
          rw [List.getElem?_append_right (by omega), h1, Nat.sub_self, hy]; rfl
    obtain ⟨xs, h1, h2⟩ := hxs len (Nat.le_refl _)
    have hmx : maxLen = 9223372036854775807 := by decide
    have hmax : xs.length ≤ 9223372036854775807 := by omega
    refine ⟨xs, some a, cap, by rw [h1], by omega, rfl, hmax, fun _ => ⟨a, rfl, fun j p hj => ?_⟩⟩
    have hjl : j < len := by have := (List.getElem?_eq_some_iff.1 hj).1; omega
    obtain ⟨y, hy, cs', hcs, hK⟩ := hf j hjl
    have hp : p = y := by have := h2 j hjl; rw [hj, hy] at this; exact Option.some.inj this
    subst hp
    obtain ⟨_, hlen, hcell⟩ := World.cells?_some hcs
    refine ⟨cs', d.K_len hK, hK, fun i u hu => ?_⟩
    have hi : i < cs'.length := (List.getElem?_eq_some_iff.1 hu).1
    have := hcell i (by omega)
    rw [Go.Deep.add_add, hc] at this
    rw [this, hu]
/-- a slice that is an argument -/
theorem okWide_slice' {P : Program} {w : World} {r : Reach} {base : Nat} {t e : TypeId} {v : Value} (ht : P.underlying t = some (.slice e)) (h : Value.okWide P w r base t v) : ∃ a len cap, v = .slice a len cap := okWide_slice ht h
set_option maxRecDepth 100000 in
theorem arg_slice {α : Type} {H : Type} {enc : TypeId × Value → H} {w : World} {base b0 : Nat} {spare : Nat → Bool} {held : Bool} {r : Reach} {t e : TypeId} {d : Kd α} {v : Value} {x : DataW H} {p : List MemPlace} (ht : Tryd.prog.underlying t = some (.slice e)) (ho : Opens t (Kd.slice e d))
    (hv : Value.okWide Tryd.prog w r b0 t v) (h : DataW.Trod enc Tryd.prog w base spare held t v x p) : ∃ l, Sl d w v l := by
  obtain ⟨a, len, cap, rfl⟩ := okWide_slice' (P := Tryd.prog) ht hv
  obtain ⟨fuel, hf⟩ := h
  obtain ⟨l, A, c, h1, h2, h3⟩ := ho _ _ _ _ _ _ _ _ _ hf
  exact ⟨l, A, c, by simpa [Value.cells] using h1, h2, h3⟩
theorem inner_max {α : Type} {d : Kd α} {e : Nat} {w : World} {A : Option Addr} {n : Nat} {ls : List (List α)} (h : (Kd.slice e d).C w A n ls) : ∀ x ∈ ls, x.length ≤ 9223372036854775807 := by
  intro x hx
  obtain ⟨i, hi, rfl⟩ := List.getElem_of_mem hx
  obtain ⟨ad, _, hc⟩ := h.2.2 (by have := h.1; omega)
  obtain ⟨cs, _, ⟨A1, c1, _, _, h3⟩, _⟩ := hc i _ (List.getElem?_eq_getElem hi)
  exact h3.2.1
end Go.Proofs.YtffibnbnabppjaaDoor.X
