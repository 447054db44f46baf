/- The words of the walks: how times, rows, items and slices of them lie in memory; worlds behind a world; an append of one element. Conditions: none. -/
import Derived.Test.YtbbkimgadohdkaaProg
import Derived.Test.YtbbkimgadohdkaaWWords
import Derived.Test.YtbbkimgadohdkaaWApart
import Derived.StillTailTactics
import Derived.Test.YtbbkimgadohdkaaXPure
namespace Go.Proofs.Ytbbkimgadohdkaa.X
open Go.RowKit Go.Proofs.YtbbkimgadohdkaaW.PrintWords

abbrev okT : Nat → Prop := fun _ => True

/-! worlds -/
/-- a world behind w: nothing that stood has changed -/
structure Ext (w : World) where
  w' : World
  bel : Below w.heap.size w w'
theorem Ext.cell {w : World} {p : Addr} {v : Value} (h : w.cell? p = some v) (u : Ext w) : u.w'.cell? p = some v := pw_cell_below u.bel h
def Ext.drew1 (w : World) : Ext w := ⟨w.drew, below_drew (Below.refl _ _)⟩
instance (w : World) : Nonempty (Ext w) := ⟨Ext.drew1 w⟩
theorem Calls.ext {P : Program} {f : FuncId} {args : Array Value} {w : World} {u : Ext w} {v : Value}
    (h : Calls P f args u.w' fun e w' => e = .returned v ∧ Below u.w'.heap.size u.w' w') : Calls P f args u.w' fun e w'' => e = .returned v ∧ ∃ u' : Ext w, w'' = u'.w' :=
  h.mono fun _ w'' ⟨he, hb⟩ => ⟨he, ⟨w'', below_then u.bel u.bel.size hb⟩, rfl⟩
/-- A region that draws, whose operations read and call what changes nothing that stood: one walk. -/
theorem wp_region_ext {P : Program} {id : Nat} {Q : Exit → Act → World → Prop} {a : Act} {w : World} {l : List Oper} (hm : P.follows .mixedOrders = true) (hB : Region.lexB .any l.toArray = true)
    (h : wpQuiet P l.toArray (fun w' => ∃ u : Ext w, w' = u.w') (fun a' => ∀ u : Ext w, Q .normal a' u.w') l a) : (Code.region id l.toArray true).wp P Q a w := by
  refine wp_region_quiet (C := fun w' => ∃ u : Ext w, w' = u.w') hm hB ⟨Ext.drew1 w, rfl⟩ ?_
  have e : (fun a' => ∀ u : Ext w, Q .normal a' u.w') = (fun a' => ∀ w', (∃ u : Ext w, w' = u.w') → Q .normal a' w') := by
    funext a'
    exact propext ⟨fun h w' ⟨u, hu⟩ => hu ▸ h u, fun h u => h _ ⟨u, rfl⟩⟩
  rw [e] at h
  simpa using h
theorem name_world {P : Program} {c : Code} {Q : Exit → Act → World → Prop} {a : Act} {w : World} (h : ∀ W, W = w → c.wp P Q a W) : c.wp P Q a w := h _ rfl
theorem bcell {W w1 : World} (hb : Below W.heap.size W w1) : (∀ b o, b < W.heap.size → w1.cell? ⟨b, o, none⟩ = W.cell? ⟨b, o, none⟩) ∧ (∀ b o, b < W.heap.size → w1.frozen? ⟨b, o, none⟩ = W.frozen? ⟨b, o, none⟩) :=
  ⟨fun b o h => hb.cell (p := ⟨b, o, none⟩) h, fun b o h => hb.frozen (p := ⟨b, o, none⟩) h⟩
/-- one more step -/
theorem bthen {w w1 w2 : World} (h : Below w.heap.size w w1) (k : Below w1.heap.size w1 w2) : Below w.heap.size w w2 := below_then h h.size k

theorem ret_bool {a b : Bool} (h : a = b) : Ending.returned (.bool a) = .returned (.bool b) := by rw [h]
theorem vbool {a b : Bool} (h : a = true ↔ b = true) : Value.bool a = .bool b := by rw [Bool.eq_iff_iff.2 h]
theorem ret_int {k : IntKind} {a b : Int} (h : a = b) : Ending.returned (.int k a) = .returned (.int k b) := by rw [h]

/-! lists -/
theorem take_snoc {α : Type} {l : List α} {k : Nat} {x : α} (hx : l[k]? = some x) : l.take (k + 1) = l.take k ++ [x] := by
  obtain ⟨hlt, rfl⟩ := List.getElem?_eq_some_iff.1 hx
  exact List.take_succ_eq_append_getElem hlt
theorem drop_cons {α : Type} {l : List α} {k : Nat} {x : α} (hx : l[k]? = some x) : l.drop k = x :: l.drop (k + 1) := by
  obtain ⟨hlt, rfl⟩ := List.getElem?_eq_some_iff.1 hx
  exact List.drop_eq_getElem_cons hlt
theorem all_take_succ {α : Type} {p : α → Bool} {l : List α} {k : Nat} {x : α} (h : (l.take k).all p = true) (hx : l[k]? = some x) (hp : p x = true) : (l.take (k + 1)).all p = true := by
  rw [take_snoc hx, List.all_append, h]; simp [hp]
theorem all_bad {α : Type} {p : α → Bool} {l : List α} {k : Nat} {x : α} (hx : l[k]? = some x) (hp : p x = false) : l.all p = false := by
  obtain ⟨hlt, rfl⟩ := List.getElem?_eq_some_iff.1 hx
  exact List.all_eq_false.2 ⟨_, List.getElem_mem hlt, by simp [hp]⟩
theorem all_done {α : Type} {p : α → Bool} {l : List α} {k : Nat} (h : (l.take k).all p = true) (hk : ¬ k < l.length) : l.all p = true := by rwa [List.take_of_length_le (by omega)] at h
theorem any_take_succ {α : Type} {p : α → Bool} {l : List α} {k : Nat} {x : α} (h : (l.take k).any p = false) (hx : l[k]? = some x) (hp : p x = false) : (l.take (k + 1)).any p = false := by
  rw [take_snoc hx, List.any_append, h]; simp [hp]
theorem any_hit {α : Type} {p : α → Bool} {l : List α} {k : Nat} {x : α} (hx : l[k]? = some x) (hp : p x = true) : l.any p = true := by
  obtain ⟨hlt, rfl⟩ := List.getElem?_eq_some_iff.1 hx
  exact List.any_eq_true.2 ⟨_, List.getElem_mem hlt, hp⟩
theorem any_done {α : Type} {p : α → Bool} {l : List α} {k : Nat} (h : (l.take k).any p = false) (hk : ¬ k < l.length) : l.any p = false := by rwa [List.take_of_length_le (by omega)] at h

/-! kinds -/
def kTm : Kd Tm := Kd.iso (Kd.pair (Kd.int .i64) (Kd.int .i64)) (fun x : Tm => (x.f0, x.f1))
def kRw : Kd Rw := Kd.iso (Kd.pair (Kd.int .i64) (Kd.pair (Kd.int .i64) (Kd.pair kTm (Kd.int .i64)))) (fun x : Rw => (x.f0, x.f1, x.f2, x.f3))
def kIt : Kd It := Kd.iso (Kd.pair (Kd.int .i64) (Kd.pair (Kd.int .i64) (Kd.int .i64))) (fun x : It => (x.f0, x.f1, x.f2))
def kB : Kd Int := Kd.int .u8
def kI : Kd Int := Kd.int .i64
def vTm (t : Tm) : List Value := [.int .i64 t.f0, .int .i64 t.f1]
def vRw (r : Rw) : List Value := [.int .i64 r.f0, .int .i64 r.f1, .int .i64 r.f2.f0, .int .i64 r.f2.f1, .int .i64 r.f3]
def vIt (x : It) : List Value := [.int .i64 x.f0, .int .i64 x.f1, .int .i64 x.f2]
theorem kTm_M {w : World} {b : Nat} {ok : Nat → Prop} {x : Tm} {cs : List Value} : kTm.M w b ok x cs ↔ cs = vTm x := ⟨fun ⟨_, _, h, h1, h2⟩ => by subst h1; subst h2; exact h, fun h => ⟨_, _, h, rfl, rfl⟩⟩
theorem kTm_K {w : World} {x : Tm} {cs : List Value} : kTm.K w x cs ↔ cs = vTm x := ⟨fun ⟨_, _, h, h1, h2⟩ => by subst h1; subst h2; exact h, fun h => ⟨_, _, h, rfl, rfl⟩⟩
theorem kRw_M {w : World} {b : Nat} {ok : Nat → Prop} {x : Rw} {cs : List Value} : kRw.M w b ok x cs ↔ cs = vRw x := by
  constructor
  · rintro ⟨_, _, h, h1, ⟨_, _, h2, h3, ⟨_, _, h4, h5, h6⟩⟩⟩
    rw [kTm_M.1 h5, show _ = [Value.int .i64 x.f3] from h6] at h4; rw [h4, show _ = [Value.int .i64 x.f1] from h3] at h2; rw [h2, show _ = [Value.int .i64 x.f0] from h1] at h; exact h
  · rintro rfl
    exact ⟨_, _, rfl, rfl, ⟨_, _, rfl, rfl, ⟨_, _, rfl, kTm_M.2 rfl, rfl⟩⟩⟩
theorem kRw_K {w : World} {x : Rw} {cs : List Value} : kRw.K w x cs ↔ cs = vRw x := by
  constructor
  · rintro ⟨_, _, h, h1, ⟨_, _, h2, h3, ⟨_, _, h4, h5, h6⟩⟩⟩
    rw [kTm_K.1 h5, show _ = [Value.int .i64 x.f3] from h6] at h4; rw [h4, show _ = [Value.int .i64 x.f1] from h3] at h2; rw [h2, show _ = [Value.int .i64 x.f0] from h1] at h; exact h
  · rintro rfl
    exact ⟨_, _, rfl, rfl, ⟨_, _, rfl, rfl, ⟨_, _, rfl, kTm_K.2 rfl, rfl⟩⟩⟩
theorem kIt_M {w : World} {b : Nat} {ok : Nat → Prop} {x : It} {cs : List Value} : kIt.M w b ok x cs ↔ cs = vIt x := by
  constructor
  · rintro ⟨_, _, h, h1, ⟨_, _, h2, h3, h4⟩⟩
    rw [show _ = [Value.int .i64 x.f1] from h3, show _ = [Value.int .i64 x.f2] from h4] at h2; rw [h2, show _ = [Value.int .i64 x.f0] from h1] at h; exact h
  · rintro rfl
    exact ⟨_, _, rfl, rfl, ⟨_, _, rfl, rfl, rfl⟩⟩
theorem kIt_K {w : World} {x : It} {cs : List Value} : kIt.K w x cs ↔ cs = vIt x := by
  constructor
  · rintro ⟨_, _, h, h1, ⟨_, _, h2, h3, h4⟩⟩
    rw [show _ = [Value.int .i64 x.f1] from h3, show _ = [Value.int .i64 x.f2] from h4] at h2; rw [h2, show _ = [Value.int .i64 x.f0] from h1] at h; exact h
  · rintro rfl
    exact ⟨_, _, rfl, rfl, ⟨_, _, rfl, rfl, rfl⟩⟩

/-! a slice that reads as a list -/
def Sl {α : Type} (d : Kd α) (w : World) (v : Value) (xs : List α) : Prop := ∃ A c, v = .slice A xs.length c ∧ xs.length ≤ c ∧ d.C w A xs.length xs
section
variable {α : Type} {d : Kd α} {e : Nat} {w w1 wr : World} {base : Nat} {ok : Nat → Prop} {v : Value} {xs : List α} {A : Option Addr} {c : Nat}
theorem Sl.of_R (h : d.R e w base ok v xs) : Sl d w v xs := by obtain ⟨A, c, h1, h2, h3⟩ := Kd.R_reads h; exact ⟨A, c, h1, h2, h3⟩
theorem Sl.below (h : Sl d w v xs) (hb : Below w.heap.size w w1) : Sl d w1 v xs := by obtain ⟨A, c, h1, h2, h3⟩ := h; exact ⟨A, c, h1, h2, Kd.C_below h3 hb⟩
theorem Sl.mk' (h : d.C w A xs.length xs) (hc : xs.length ≤ c) : Sl d w (.slice A xs.length c) xs := ⟨A, c, rfl, hc, h⟩
theorem Sl.max (h : Sl d w v xs) : xs.length ≤ 9223372036854775807 := by obtain ⟨A, c, h1, h2, h3⟩ := h; exact h3.2.1
theorem Sl.nil (d : Kd α) (w : World) : Sl d w (.slice none 0 0) [] := ⟨none, 0, rfl, Nat.le_refl _, Kd.C_nil d w⟩

theorem cget (h : d.C w A xs.length xs) (hb : Below w.heap.size w wr) {k : Nat} (hk : k < xs.length) : ∃ ad x cs, A = some ad ∧ xs[k]? = some x ∧ d.K wr x cs ∧ ∀ j u, cs[j]? = some u → wr.cell? (ad.add (k * d.sz + j)) = some u := by
  obtain ⟨ad, e, hc⟩ := h.2.2 (by omega)
  obtain ⟨cs, _, hK, hcell⟩ := hc k _ (List.getElem?_eq_getElem hk)
  exact ⟨ad, _, cs, e, List.getElem?_eq_getElem hk, d.K_below hb hK, fun j u hu => pw_cell_below hb (hcell j u hu)⟩
end
section
variable {w wr : World} {A : Option Addr} {k : Nat}
theorem rdTm {xs : List Tm} (h : kTm.C w A xs.length xs) (hb : Below w.heap.size w wr) (hk : k < xs.length) : ∃ ad x, A = some ad ∧ Aside0 (xs[k]? = some x) ∧ wr.cell? (ad.add (k * 2)) = some (.int .i64 x.f0) ∧ wr.cell? ⟨(ad.add (k * 2)).block, (ad.add (k * 2)).off + 1, none⟩ = some (.int .i64 x.f1) := by
  obtain ⟨ad, x, cs, e, hx, hK, hc⟩ := cget h hb hk
  rw [kTm_K] at hK; subst hK
  exact ⟨ad, x, e, ⟨hx⟩, hc 0 _ rfl, by rw [← add_field _ _ 1 (by omega)]; exact hc 1 _ rfl⟩
/-- the first element, whose address the walk spells without a sum -/
theorem rdTm0 {xs : List Tm} (h : kTm.C w A xs.length xs) (hb : Below w.heap.size w wr) (hk : 0 < xs.length) : ∃ ad x, A = some ad ∧ Aside0 (xs[0]? = some x) ∧ wr.cell? ad = some (.int .i64 x.f0) ∧ wr.cell? ⟨ad.block, ad.off + 1, none⟩ = some (.int .i64 x.f1) := by
  obtain ⟨ad, x, e, HX, h0, h1⟩ := rdTm h hb hk
  have ea : ad.add (0 * 2) = ad := by simp [Addr.add]
  rw [ea] at h0 h1
  exact ⟨ad, x, e, HX, h0, h1⟩
theorem rdRw {xs : List Rw} (h : kRw.C w A xs.length xs) (hb : Below w.heap.size w wr) (hk : k < xs.length) : ∃ ad x, A = some ad ∧ Aside0 (xs[k]? = some x) ∧ wr.cell? (ad.add (k * 5)) = some (.int .i64 x.f0) ∧ wr.cell? ⟨(ad.add (k * 5)).block, (ad.add (k * 5)).off + 1, none⟩ = some (.int .i64 x.f1) ∧ wr.cell? ⟨(ad.add (k * 5)).block, (ad.add (k * 5)).off + 2, none⟩ = some (.int .i64 x.f2.f0) ∧ wr.cell? ⟨(ad.add (k * 5)).block, (ad.add (k * 5)).off + 3, none⟩ = some (.int .i64 x.f2.f1) ∧ wr.cell? ⟨(ad.add (k * 5)).block, (ad.add (k * 5)).off + 4, none⟩ = some (.int .i64 x.f3) := by
  obtain ⟨ad, x, cs, e, hx, hK, hc⟩ := cget h hb hk
  rw [kRw_K] at hK; subst hK
  exact ⟨ad, x, e, ⟨hx⟩, hc 0 _ rfl, by rw [← add_field _ _ 1 (by omega)]; exact hc 1 _ rfl, by rw [← add_field _ _ 2 (by omega)]; exact hc 2 _ rfl, by rw [← add_field _ _ 3 (by omega)]; exact hc 3 _ rfl, by rw [← add_field _ _ 4 (by omega)]; exact hc 4 _ rfl⟩
theorem rdIt {xs : List It} (h : kIt.C w A xs.length xs) (hb : Below w.heap.size w wr) (hk : k < xs.length) : ∃ ad x, A = some ad ∧ Aside0 (xs[k]? = some x) ∧ wr.cell? (ad.add (k * 3)) = some (.int .i64 x.f0) ∧ wr.cell? ⟨(ad.add (k * 3)).block, (ad.add (k * 3)).off + 1, none⟩ = some (.int .i64 x.f1) ∧ wr.cell? ⟨(ad.add (k * 3)).block, (ad.add (k * 3)).off + 2, none⟩ = some (.int .i64 x.f2) := by
  obtain ⟨ad, x, cs, e, hx, hK, hc⟩ := cget h hb hk
  rw [kIt_K] at hK; subst hK
  exact ⟨ad, x, e, ⟨hx⟩, hc 0 _ rfl, by rw [← add_field _ _ 1 (by omega)]; exact hc 1 _ rfl, by rw [← add_field _ _ 2 (by omega)]; exact hc 2 _ rfl⟩
/-- a slice of slices -/
theorem rdSl {α : Type} {d : Kd α} {e : Nat} {xs : List (List α)} (h : (Kd.slice e d).C w A xs.length xs) (hb : Below w.heap.size w wr) (hk : k < xs.length) : ∃ ad x A1 c1, A = some ad ∧ Aside0 (xs[k]? = some x) ∧ wr.cell? (ad.add k) = some (.slice A1 x.length c1) ∧ Aside0 (Sl d wr (.slice A1 x.length c1) x) := by
  obtain ⟨ad, x, cs, e, hx, ⟨A1, c1, rfl, h2, h3⟩, hc⟩ := cget h hb hk
  have h0 := hc 0 _ rfl
  rw [Nat.add_zero, show (Kd.slice _ d).sz = 1 from rfl, Nat.mul_one] at h0
  exact ⟨ad, x, A1, c1, e, ⟨hx⟩, h0, ⟨⟨A1, c1, rfl, h2, h3⟩⟩⟩
theorem rdB {xs : List Int} (h : kB.C w A xs.length xs) (hb : Below w.heap.size w wr) (hk : k < xs.length) : ∃ ad x, A = some ad ∧ Aside0 (xs[k]? = some x) ∧ wr.cell? (ad.add k) = some (.int .u8 x) := by
  obtain ⟨ad, x, cs, e, hx, hK, hc⟩ := cget h hb hk
  obtain rfl : cs = [.int .u8 x] := hK
  have h0 := hc 0 _ rfl
  rw [Nat.add_zero, show kB.sz = 1 from rfl, Nat.mul_one] at h0
  exact ⟨ad, x, e, ⟨hx⟩, h0⟩
end

section
variable {w wr : World} {A : Option Addr} {k : Nat}
theorem rdI {xs : List Int} (h : kI.C w A xs.length xs) (hb : Below w.heap.size w wr) (hk : k < xs.length) : ∃ ad x, A = some ad ∧ Aside0 (xs[k]? = some x) ∧ wr.cell? (ad.add k) = some (.int .i64 x) := by
  obtain ⟨ad, x, cs, e, hx, hK, hc⟩ := cget h hb hk
  obtain rfl : cs = [.int .i64 x] := hK
  have h0 := hc 0 _ rfl
  rw [Nat.add_zero, show kI.sz = 1 from rfl, Nat.mul_one] at h0
  exact ⟨ad, x, e, ⟨hx⟩, h0⟩
end
/-- a literal of whole numbers -/
theorem litI (W : World) (xs : List Int) (t : TypeId) (hx : xs.length ≤ 1000) : kI.C (W.alloc (.cells (xs.map (Value.int .i64)).toArray t)) (some ⟨W.heap.size, 0, none⟩) xs.length xs := by
  refine ⟨rfl, by omega, fun _ => ⟨_, rfl, fun j p hj => ⟨[.int .i64 p], rfl, rfl, fun i u hu => ?_⟩⟩⟩
  have hi : i = 0 := by have := (List.getElem?_eq_some_iff.1 hu).1; simp at this; omega
  subst hi
  have : u = .int .i64 p := by simpa using hu.symm
  subst this
  rw [Nat.add_zero, show kI.sz = 1 from rfl, Nat.mul_one, add_plain, blk_cell (blk_new W _)]
  simp [hj]

/-! what stands for an element in a row of one's own; rows made, stored into, appended to -/
section
variable {P : Program} {ops : Array Oper} {rest : List Oper} {o : Oper} {a : Act} {Q : Exit → Act → World → Prop} {α : Type}
/-- out[k] = x, the whole element -/
theorem storeEl (d : Kd α) {w0 W : World} {base : Nat} (hN : o.dst = none) (hgd : o.guard = none) {t : TypeId} {p x : Operand} (ho : o.op = .store t p x) {e g n cap o' : Nat} (k : Nat) {xs : List α} (x' : α) (cs : List Value) {ok okp : Nat → Prop}
    (haddr : a.eval p = .pointer (some ⟨g, o', none⟩)) (hoff : o' = k * d.sz) (hu : (a.eval x).cells.toList = cs) (ht : (P.info? t).map (·.size) = some d.sz)
    (HO : d.R e W base ok (.slice (some ⟨g, 0, none⟩) n cap) xs) (hi : k < n) (hM : d.M W base okp x' cs) (hokp : ∀ q, okp q → ok q ∧ q ≠ g) (HB : Below base w0 W)
    (h : ∀ w1, d.R e w1 base ok (.slice (some ⟨g, 0, none⟩) n cap) (xs.set k x') → Below base w0 w1 → W.grownBy w1 (some g) → wpList P ops Q rest a w1) : wpList P ops Q (o :: rest) a W := by
  have hl := d.K_len (d.K_of_M hM)
  obtain ⟨c, hcl, _, hcc, _⟩ := Kd.R_elem HO x' (k : Int) (by omega) (by omega)
  simp only [Int.toNat_natCast] at hcc
  refine Kd.R_store d base hN hgd t p x ho e (k : Int) 0 xs x' _ cs c ok okp haddr (by simpa using hoff) rfl hu (by rw [hl]; exact ht) (d.K_one (d.K_of_M hM)) HO (by omega) (by omega) hcl (by simpa using hcc) (by omega) ?_ hokp HB (by simpa using h)
  rw [List.take_zero, List.nil_append, Nat.zero_add, hl, List.drop_of_length_le (by omega), List.append_nil]
  exact hM
end
section
variable {P : Program} {ops : Array Oper} {rest : List Oper} {o : Oper} {a : Act} {Q : Exit → Act → World → Prop} {α : Type}
/-- out[k] = x, where x leads to rows of its own that are younger than N, and all that out led to is elder -/
theorem storeElS (d : Kd α) {w0 W : World} {base N : Nat} (hN : o.dst = none) (hgd : o.guard = none) {t : TypeId} {p x : Operand} (ho : o.op = .store t p x) {e g n cap o' : Nat} (k : Nat) {xs : List α} (x' : α) (cs : List Value)
    (haddr : a.eval p = .pointer (some ⟨g, o', none⟩)) (hoff : o' = k * d.sz) (hu : (a.eval x).cells.toList = cs) (ht : (P.info? t).map (·.size) = some d.sz)
    (HO : Kd.S d e W base (fun k => k < N) (.slice (some ⟨g, 0, none⟩) n cap) xs) (hn : xs.length = n) (hi : k < n) (hM : d.M W base (fun k => N ≤ k) x' cs) (HB : Below base w0 W)
    (h : ∀ w1, Kd.S d e w1 base okT (.slice (some ⟨g, 0, none⟩) n cap) (xs.set k x') → Below base w0 w1 → W.grownBy w1 (some g) → wpList P ops Q rest a w1) : wpList P ops Q (o :: rest) a W := by
  obtain ⟨f, hf, HT⟩ := Kd.S_tag HO k (fun k => N ≤ k) (fun _ h1 h2 => by omega)
  have hg : g < N := HT.1 g rfl
  refine storeEl (Kd.tag f d) hN hgd ho k (x', k) cs (okp := fun q => N ≤ q) haddr hoff hu ht (Kd.R_mono HT (fun _ _ => trivial)) hi (d.M_mono (fun q hq => ⟨hq, hf q hq⟩) hM) (fun q hq => ⟨trivial, by omega⟩) HB (fun w1 h1 hb hgr => h w1 ⟨f, ?_⟩ hb hgr)
  have e : xs.zipIdx.set k (x', k) = (xs.set k x').zipIdx := by
    apply List.ext_getElem?
    intro i
    rw [List.getElem?_zipIdx, List.getElem?_set, List.getElem?_set, List.length_zipIdx, List.getElem?_zipIdx]
    by_cases hk : k = i
    · subst hk
      rw [if_pos rfl, if_pos rfl, if_pos (by omega), if_pos (by omega)]
      simp
    · rw [if_neg hk, if_neg hk]
  rw [e] at h1
  exact h1
end
theorem formR {α : Type} {d : Kd α} {e : Nat} {w : World} {base : Nat} {ok : Nat → Prop} {v : Value} {xs : List α} {n : Nat} (h : d.R e w base ok v xs) (hn : xs.length = n) (hp : 0 < n) : ∃ g cap, v = .slice (some ⟨g, 0, none⟩) n cap ∧ base ≤ g ∧ g < w.heap.size := by
  subst hn
  obtain ⟨g, cap, h1, h2, h3, _⟩ := Kd.R_form h hp
  exact ⟨g, cap, h1, h2, h3⟩
/-- a struct that lies in memory is handed back -/
theorem ret_cell {P : Program} {fn : Func} {R : Ending → World → Prop} {a : Act} {w : World} {p : Tmp} {ty : TypeId} {g : Nat} {cs : Array Value} {d : TypeDesc} (h : fn.results = #[.cell p ty]) (hp : a.tmps.getD p undef = .pointer (some ⟨g, 0, none⟩)) (hd : a.defers = [])
    (hg : w.heap[g]? = some (.cells cs ty (0, 0))) (hu : P.underlying ty = some d) (hk : (match d with | .struct _ | .array _ _ => true | _ => false) = true) (hi : (P.info? ty).map (·.size) = some cs.size) (hR : R (.returned (.agg cs)) w) : bodyPost P fn R .ret a w :=
  bodyPost_ret (results_cell_row h _ _ g ty cs (0, 0) d hp hg hu hk hi) hd hR
theorem blk2 {w : World} {g : Nat} {t : TypeId} {z0 z1 : Value} (h : w.heap[g]? = some (.cells #[z0, z1] t (0, 0))) (u0 u1 : Value) : ((w.setCell ⟨g, 0, none⟩ u0).setCell ⟨g, 1, none⟩ u1).heap[g]? = some (.cells #[u0, u1] t (0, 0)) := by simpa using blk_set (blk_set h 0 u0) 1 u1
theorem blk3 {w : World} {g : Nat} {t : TypeId} {z0 z1 z2 : Value} (h : w.heap[g]? = some (.cells #[z0, z1, z2] t (0, 0))) (u0 u1 u2 : Value) : (((w.setCell ⟨g, 0, none⟩ u0).setCell ⟨g, 1, none⟩ u1).setCell ⟨g, 2, none⟩ u2).heap[g]? = some (.cells #[u0, u1, u2] t (0, 0)) := by simpa using blk_set (blk_set (blk_set h 0 u0) 1 u1) 2 u2
theorem blk5 {w : World} {g : Nat} {t : TypeId} {z0 z1 z2 z3 z4 : Value} (h : w.heap[g]? = some (.cells #[z0, z1, z2, z3, z4] t (0, 0))) (u0 u1 u2 u3 u4 : Value) : (((((w.setCell ⟨g, 0, none⟩ u0).setCell ⟨g, 1, none⟩ u1).setCell ⟨g, 2, none⟩ u2).setCell ⟨g, 3, none⟩ u3).setCell ⟨g, 4, none⟩ u4).heap[g]? = some (.cells #[u0, u1, u2, u3, u4] t (0, 0)) := by simpa using blk_set (blk_set (blk_set (blk_set (blk_set h 0 u0) 1 u1) 2 u2) 3 u3) 4 u4
theorem formS {α : Type} {d : Kd α} {e : Nat} {w : World} {base : Nat} {ok : Nat → Prop} {v : Value} {xs : List α} {n : Nat} (h : Kd.S d e w base ok v xs) (hn : xs.length = n) (hp : 0 < n) : ∃ g cap, v = .slice (some ⟨g, 0, none⟩) n cap ∧ base ≤ g ∧ g < w.heap.size := formR (Kd.S_R h) hn hp
theorem blk_two (w : World) (A B : Obj) : ((w.alloc A).alloc B).heap[w.heap.size + 1]? = some B := by
  have := blk_new (w.alloc A) B
  simpa using this
theorem set_next {α : Type} {l : List α} {k : Nat} {x z : α} (hx : l[k]? = some x) : (l.take k ++ List.replicate (l.length - k) z).set k x = l.take (k + 1) ++ List.replicate (l.length - (k + 1)) z := by
  obtain ⟨hlt, rfl⟩ := List.getElem?_eq_some_iff.1 hx
  rw [List.set_append_right _ _ (by rw [List.length_take]; omega), List.length_take, show k - min k l.length = 0 by omega, show l.length - k = (l.length - (k + 1)) + 1 by omega, List.replicate_succ, List.set_cons_zero, List.take_succ_eq_append_getElem hlt, List.append_assoc]
  rfl

theorem infoTm : (Try.prog.info? 53).map (fun i => (i.zero, i.size, i.bytes)) = some (some (.agg #[.int .i64 0, .int .i64 0]), 2, 16) := by kernel_rfl
theorem infoRw : (Try.prog.info? 56).map (fun i => (i.zero, i.size, i.bytes)) = some (some (.agg #[.int .i64 0, .int .i64 0, .int .i64 0, .int .i64 0, .int .i64 0]), 5, 40) := by kernel_rfl
theorem infoIt : (Try.prog.info? 44).map (fun i => (i.zero, i.size, i.bytes)) = some (some (.agg #[.int .i64 0, .int .i64 0, .int .i64 0]), 3, 24) := by kernel_rfl
theorem infoRwS : (Try.prog.info? 36).map (fun i => (i.zero, i.size, i.bytes)) = some (some (.slice none 0 0), 1, 24) := by kernel_rfl
theorem infoItS : (Try.prog.info? 23).map (fun i => (i.zero, i.size, i.bytes)) = some (some (.slice none 0 0), 1, 24) := by kernel_rfl
theorem infoI : (Try.prog.info? 3).map (fun i => (i.zero, i.size, i.bytes)) = some (some (.int .i64 0), 1, 8) := by kernel_rfl
section
variable {ops : Array Oper} {rest : List Oper} {o : Oper} {a : Act} {Q : Exit → Act → World → Prop}
/-- append(out, x) -/
theorem appTm {w0 W : World} {base : Nat} {s x : Operand} {p0 p1 : Int} {xs : List Tm} {ok : Nat → Prop} (hgd : o.guard = none)
    (ho : o.op = .call { callee := .builtin .append, args := #[s, x], argTypes := #[50, 50] })
    (hx : a.eval x = .slice (some ⟨W.heap.size, 0, none⟩) 1 1) (HO : kTm.R 53 W base ok (a.eval s) xs) (hfresh : ∀ k, W.heap.size ≤ k → ok k) (HB : Below base w0 W) (hbase : base ≤ W.heap.size) (hl : xs.length < 3518437208000)
    (h : ∀ v1 w1, kTm.R 53 w1 base ok v1 (xs ++ [⟨p0, p1⟩]) → Below base w0 w1 → W.grownBy w1 (a.eval s).ownBlock → ((v1.ownBlock = (a.eval s).ownBlock) ∨ ∃ b, v1.ownBlock = some b ∧ W.heap.size ≤ b) → wpList Try.prog ops Q rest (a.put o.dst v1) w1) :
    wpList Try.prog ops Q (o :: rest) a (W.alloc (.cells #[.int .i64 p0, .int .i64 p1] 53)) :=
  Kd.R_append kTm (w0 := w0) base hgd s x 50 53 (.agg #[.int .i64 0, .int .i64 0]) 16 ho Try.underlying50 infoTm rfl (by decide) (by omega) _ xs ⟨p0, p1⟩ _ ok (fun _ => False) rfl hx (kTm_M.2 rfl) (fun _ hk => hk.elim) hfresh HO HB hbase (by omega) h
/-- append(out, ys...) -/
theorem appsTm {w0 W : World} {base : Nat} {s x : Operand} {xs ys : List Tm} {ok : Nat → Prop} (hgd : o.guard = none)
    (ho : o.op = .call { callee := .builtin .append, args := #[s, x], argTypes := #[50, 50] })
    (HS : Sl kTm W (a.eval x) ys) (HO : kTm.R 53 W base ok (a.eval s) xs) (hfresh : ∀ k, W.heap.size ≤ k → ok k) (HB : Below base w0 W) (hbase : base ≤ W.heap.size) (hl : xs.length + ys.length < 3518437208000)
    (h : ∀ v1 w1, kTm.R 53 w1 base ok v1 (xs ++ ys) → Below base w0 w1 → W.grownBy w1 (a.eval s).ownBlock → ((v1.ownBlock = (a.eval s).ownBlock) ∨ ∃ b, v1.ownBlock = some b ∧ W.heap.size ≤ b) → wpList Try.prog ops Q rest (a.put o.dst v1) w1) :
    wpList Try.prog ops Q (o :: rest) a W := by
  obtain ⟨A, c, hv, hc, hC⟩ := HS
  exact Kd.R_append_rows kTm (w0 := w0) base hgd s x 50 53 (.agg #[.int .i64 0, .int .i64 0]) 16 ho Try.underlying50 infoTm rfl (by decide) (by omega) _ xs ys A _ c ok (fun _ => False) rfl hv HO hC (fun _ _ hk => kTm_M.2 (kTm_K.1 hk)) (fun _ hk => hk.elim) hfresh HB hbase (by omega) h
/-- make([]T, n) -/
theorem makeTm {w0 W : World} {base : Nat} {N : Tmp} {x y : Operand} (n : Nat) (hgd : o.guard = none) (hd : o.dst = some N) (ho : o.op = .makeSlice 50 x y) (hx : a.eval x = .int .i64 n) (hy : a.eval y = .int .i64 n) (hl : n < 7036874416000)
    (HB : Below base w0 W) (hbase : base ≤ W.heap.size) (h : ∀ v1 w1, kTm.R 53 w1 base okT v1 (List.replicate n default) → Below base w0 w1 → W.grownBy w1 none → (∃ b, v1.ownBlock = some b ∧ W.heap.size ≤ b) → wpList Try.prog ops Q rest (a.put o.dst v1) w1) :
    wpList Try.prog ops Q (o :: rest) a W :=
  Kd.R_make kTm base 53 hgd hd 50 x y ho (n : Int) hx hy Try.underlying50 (.agg #[.int .i64 0, .int .i64 0]) 16 infoTm rfl (by decide) (by omega) (default : Tm) (okp := fun _ => False) (kTm_M.2 rfl) (fun _ hk => hk.elim) trivial (by omega) (by simp; omega) HB hbase (by simpa using h)
/-- append(out, x) -/
theorem appRw {w0 W : World} {base : Nat} {s x : Operand} {p0 p1 p2 p3 p4 : Int} {xs : List Rw} {ok : Nat → Prop} (hgd : o.guard = none)
    (ho : o.op = .call { callee := .builtin .append, args := #[s, x], argTypes := #[36, 36] })
    (hx : a.eval x = .slice (some ⟨W.heap.size, 0, none⟩) 1 1) (HO : kRw.R 56 W base ok (a.eval s) xs) (hfresh : ∀ k, W.heap.size ≤ k → ok k) (HB : Below base w0 W) (hbase : base ≤ W.heap.size) (hl : xs.length < 3518437208000)
    (h : ∀ v1 w1, kRw.R 56 w1 base ok v1 (xs ++ [⟨p0, p1, ⟨p2, p3⟩, p4⟩]) → Below base w0 w1 → W.grownBy w1 (a.eval s).ownBlock → ((v1.ownBlock = (a.eval s).ownBlock) ∨ ∃ b, v1.ownBlock = some b ∧ W.heap.size ≤ b) → wpList Try.prog ops Q rest (a.put o.dst v1) w1) :
    wpList Try.prog ops Q (o :: rest) a (W.alloc (.cells #[.int .i64 p0, .int .i64 p1, .int .i64 p2, .int .i64 p3, .int .i64 p4] 56)) :=
  Kd.R_append kRw (w0 := w0) base hgd s x 36 56 (.agg #[.int .i64 0, .int .i64 0, .int .i64 0, .int .i64 0, .int .i64 0]) 40 ho Try.underlying36 infoRw rfl (by decide) (by omega) _ xs ⟨p0, p1, ⟨p2, p3⟩, p4⟩ _ ok (fun _ => False) rfl hx (kRw_M.2 rfl) (fun _ hk => hk.elim) hfresh HO HB hbase (by omega) h
/-- append(out, ys...) -/
theorem appsRw {w0 W : World} {base : Nat} {s x : Operand} {xs ys : List Rw} {ok : Nat → Prop} (hgd : o.guard = none)
    (ho : o.op = .call { callee := .builtin .append, args := #[s, x], argTypes := #[36, 36] })
    (HS : Sl kRw W (a.eval x) ys) (HO : kRw.R 56 W base ok (a.eval s) xs) (hfresh : ∀ k, W.heap.size ≤ k → ok k) (HB : Below base w0 W) (hbase : base ≤ W.heap.size) (hl : xs.length + ys.length < 3518437208000)
    (h : ∀ v1 w1, kRw.R 56 w1 base ok v1 (xs ++ ys) → Below base w0 w1 → W.grownBy w1 (a.eval s).ownBlock → ((v1.ownBlock = (a.eval s).ownBlock) ∨ ∃ b, v1.ownBlock = some b ∧ W.heap.size ≤ b) → wpList Try.prog ops Q rest (a.put o.dst v1) w1) :
    wpList Try.prog ops Q (o :: rest) a W := by
  obtain ⟨A, c, hv, hc, hC⟩ := HS
  exact Kd.R_append_rows kRw (w0 := w0) base hgd s x 36 56 (.agg #[.int .i64 0, .int .i64 0, .int .i64 0, .int .i64 0, .int .i64 0]) 40 ho Try.underlying36 infoRw rfl (by decide) (by omega) _ xs ys A _ c ok (fun _ => False) rfl hv HO hC (fun _ _ hk => kRw_M.2 (kRw_K.1 hk)) (fun _ hk => hk.elim) hfresh HB hbase (by omega) h
/-- make([]T, n) -/
theorem makeRw {w0 W : World} {base : Nat} {N : Tmp} {x y : Operand} (n : Nat) (hgd : o.guard = none) (hd : o.dst = some N) (ho : o.op = .makeSlice 36 x y) (hx : a.eval x = .int .i64 n) (hy : a.eval y = .int .i64 n) (hl : n < 7036874416000)
    (HB : Below base w0 W) (hbase : base ≤ W.heap.size) (h : ∀ v1 w1, kRw.R 56 w1 base okT v1 (List.replicate n default) → Below base w0 w1 → W.grownBy w1 none → (∃ b, v1.ownBlock = some b ∧ W.heap.size ≤ b) → wpList Try.prog ops Q rest (a.put o.dst v1) w1) :
    wpList Try.prog ops Q (o :: rest) a W :=
  Kd.R_make kRw base 56 hgd hd 36 x y ho (n : Int) hx hy Try.underlying36 (.agg #[.int .i64 0, .int .i64 0, .int .i64 0, .int .i64 0, .int .i64 0]) 40 infoRw rfl (by decide) (by omega) (default : Rw) (okp := fun _ => False) (kRw_M.2 rfl) (fun _ hk => hk.elim) trivial (by omega) (by simp; omega) HB hbase (by simpa using h)
/-- append(out, x) -/
theorem appIt {w0 W : World} {base : Nat} {s x : Operand} {p0 p1 p2 : Int} {xs : List It} {ok : Nat → Prop} (hgd : o.guard = none)
    (ho : o.op = .call { callee := .builtin .append, args := #[s, x], argTypes := #[23, 23] })
    (hx : a.eval x = .slice (some ⟨W.heap.size, 0, none⟩) 1 1) (HO : kIt.R 44 W base ok (a.eval s) xs) (hfresh : ∀ k, W.heap.size ≤ k → ok k) (HB : Below base w0 W) (hbase : base ≤ W.heap.size) (hl : xs.length < 3518437208000)
    (h : ∀ v1 w1, kIt.R 44 w1 base ok v1 (xs ++ [⟨p0, p1, p2⟩]) → Below base w0 w1 → W.grownBy w1 (a.eval s).ownBlock → ((v1.ownBlock = (a.eval s).ownBlock) ∨ ∃ b, v1.ownBlock = some b ∧ W.heap.size ≤ b) → wpList Try.prog ops Q rest (a.put o.dst v1) w1) :
    wpList Try.prog ops Q (o :: rest) a (W.alloc (.cells #[.int .i64 p0, .int .i64 p1, .int .i64 p2] 44)) :=
  Kd.R_append kIt (w0 := w0) base hgd s x 23 44 (.agg #[.int .i64 0, .int .i64 0, .int .i64 0]) 24 ho Try.underlying23 infoIt rfl (by decide) (by omega) _ xs ⟨p0, p1, p2⟩ _ ok (fun _ => False) rfl hx (kIt_M.2 rfl) (fun _ hk => hk.elim) hfresh HO HB hbase (by omega) h
/-- append(out, ys...) -/
theorem appsIt {w0 W : World} {base : Nat} {s x : Operand} {xs ys : List It} {ok : Nat → Prop} (hgd : o.guard = none)
    (ho : o.op = .call { callee := .builtin .append, args := #[s, x], argTypes := #[23, 23] })
    (HS : Sl kIt W (a.eval x) ys) (HO : kIt.R 44 W base ok (a.eval s) xs) (hfresh : ∀ k, W.heap.size ≤ k → ok k) (HB : Below base w0 W) (hbase : base ≤ W.heap.size) (hl : xs.length + ys.length < 3518437208000)
    (h : ∀ v1 w1, kIt.R 44 w1 base ok v1 (xs ++ ys) → Below base w0 w1 → W.grownBy w1 (a.eval s).ownBlock → ((v1.ownBlock = (a.eval s).ownBlock) ∨ ∃ b, v1.ownBlock = some b ∧ W.heap.size ≤ b) → wpList Try.prog ops Q rest (a.put o.dst v1) w1) :
    wpList Try.prog ops Q (o :: rest) a W := by
  obtain ⟨A, c, hv, hc, hC⟩ := HS
  exact Kd.R_append_rows kIt (w0 := w0) base hgd s x 23 44 (.agg #[.int .i64 0, .int .i64 0, .int .i64 0]) 24 ho Try.underlying23 infoIt rfl (by decide) (by omega) _ xs ys A _ c ok (fun _ => False) rfl hv HO hC (fun _ _ hk => kIt_M.2 (kIt_K.1 hk)) (fun _ hk => hk.elim) hfresh HB hbase (by omega) h
/-- make([]T, n) -/
theorem makeIt {w0 W : World} {base : Nat} {N : Tmp} {x y : Operand} (n : Nat) (hgd : o.guard = none) (hd : o.dst = some N) (ho : o.op = .makeSlice 23 x y) (hx : a.eval x = .int .i64 n) (hy : a.eval y = .int .i64 n) (hl : n < 7036874416000)
    (HB : Below base w0 W) (hbase : base ≤ W.heap.size) (h : ∀ v1 w1, kIt.R 44 w1 base okT v1 (List.replicate n default) → Below base w0 w1 → W.grownBy w1 none → (∃ b, v1.ownBlock = some b ∧ W.heap.size ≤ b) → wpList Try.prog ops Q rest (a.put o.dst v1) w1) :
    wpList Try.prog ops Q (o :: rest) a W :=
  Kd.R_make kIt base 44 hgd hd 23 x y ho (n : Int) hx hy Try.underlying23 (.agg #[.int .i64 0, .int .i64 0, .int .i64 0]) 24 infoIt rfl (by decide) (by omega) (default : It) (okp := fun _ => False) (kIt_M.2 rfl) (fun _ hk => hk.elim) trivial (by omega) (by simp; omega) HB hbase (by simpa using h)
end

/-! what a call answers -/
/-- a value; nothing that stood has changed -/
def RetV (w : World) (v : Value) (e : Ending) (w' : World) : Prop := e = .returned v ∧ Below w.heap.size w w'
theorem RetV.mk {w w' : World} {u v : Value} (h : u = v) (hb : Below w.heap.size w w') : RetV w v (.returned u) w' := ⟨by rw [h], hb⟩
/-- a slice of its own -/
def RetR {α : Type} (d : Kd α) (e : Nat) (w : World) (xs : List α) (en : Ending) (w' : World) : Prop := ∃ v, en = .returned v ∧ d.R e w' w.heap.size okT v xs ∧ Below w.heap.size w w'
theorem RetR.mk {α : Type} {d : Kd α} {e : Nat} {w w' : World} {xs : List α} {v : Value} (h : d.R e w' w.heap.size okT v xs) (hb : Below w.heap.size w w') : RetR d e w xs (.returned v) w' := ⟨v, rfl, h, hb⟩
theorem Calls.extV {P : Program} {f : FuncId} {args : Array Value} {w : World} {u : Ext w} {v : Value} (h : Calls P f args u.w' (RetV u.w' v)) : Calls P f args u.w' fun e w'' => e = .returned v ∧ ∃ u' : Ext w, w'' = u'.w' := Calls.ext h
end Go.Proofs.Ytbbkimgadohdkaa.X
