/- Conditions: none. -/
import Derived.Test.YtkdendlgaaimbaaYCSo
import Derived.Sort.Walk11
import Derived.Sort.LotD1
import Derived.Sort.LotD4
namespace Go.Proofs.Ytkdendlgaaimbaa.X
open Go.Shelf Go.RowKit Go.Lib Go.Sort Go.Proofs.YtkdendlgaaimbaaW.PrintWords
set_option linter.unusedVariables false
set_option linter.unusedSimpArgs false
variable {P : Program} {ρ : Ren} {α : Type} [Inhabited α]
structure Cn (E : SE P α) (W W' : World) (d : Array α) (cb s : Nat) : Prop where
 st : St E W' d
 cc : W'.cell? ⟨cb, 0, none⟩ = some (.int .i64 s)
 cf : W'.frozen? ⟨cb, 0, none⟩ = false
 fr : W.grownBy W' (some cb)
 lt : cb < W.heap.size
 hi : E.w0.heap.size ≤ cb
section
variable {E : SE P α} {W W1 W2 : World} {d : Array α} {cb s : Nat}
theorem Cn.start (h : St E W d) (hc : W.cell? ⟨cb, 0, none⟩ = some (.int .i64 s)) (hf : W.frozen? ⟨cb, 0, none⟩ = false) (hl : cb < W.heap.size) (hh : E.w0.heap.size ≤ cb) : Cn E W W d cb s := ⟨h, hc, hf, grownBy_refl _ _, hl, hh⟩
theorem Cn.self (h : Cn E W W1 d cb s) : Cn E W1 W1 d cb s := ⟨h.st, h.cc, h.cf, grownBy_refl _ _, Nat.lt_of_lt_of_le h.lt h.fr.size, h.hi⟩
theorem Cn.trans {s2 : Nat} (h : Cn E W W1 d cb s) (k : Cn E W1 W2 d cb s2) : Cn E W W2 d cb s2 := ⟨k.st, k.cc, k.cf, grownBy_then h.fr k.fr, h.lt, h.hi⟩
theorem Cn.below (h : Cn E W W1 d cb s) (hb : Go.RowKit.Below W1.heap.size W1 W2) : Cn E W W2 d cb s :=
 ⟨h.st.below hb, by rw [World.cell?_of_block (hb.block cb (Nat.lt_of_lt_of_le h.lt h.fr.size))]; exact h.cc, by rw [World.frozen?_of_block (hb.block cb (Nat.lt_of_lt_of_le h.lt h.fr.size))]; exact h.cf, grownBy_then h.fr (grownBy_of_below hb), h.lt, h.hi⟩
theorem Cn.ahead (h : Cn E W1 W2 d cb s) (hb : Go.RowKit.Below W.heap.size W W1) (hl : cb < W.heap.size) : Cn E W W2 d cb s := ⟨h.st, h.cc, h.cf, grownBy_then (grownBy_of_below hb) h.fr, hl, h.hi⟩
theorem Cn.inc (h : Cn E W W1 d cb s) {v : Value} (hv : v = .int .i64 ((s + 1 : Nat) : Int)) : Cn E W (W1.setCell ⟨cb, 0, none⟩ v) d cb (s + 1) := by
 have hl : cb < W1.heap.size := Nat.lt_of_lt_of_le h.lt h.fr.size
 have hg : W1.grownBy (W1.setCell ⟨cb, 0, none⟩ v) (some cb) := ⟨rfl, rfl, rfl, by simp, fun j hj hn => by
  have : cb ≠ j := fun e => hn (by rw [e])
  simp [World.setCell, Array.getElem?_modify, this]⟩
 refine ⟨h.st.keep hg (fun k e => by cases e; exact h.hi), ?_, ?_, grownBy_then h.fr hg, h.lt, h.hi⟩
 ·subst hv
  exact World.cell?_setCell_same _ _ _ h.cc
 ·rw [← h.cf]; simp
theorem Cn.cell (h : Cn E W W1 d cb s) {b o : Nat} {v : Value} (hc : W.cell? ⟨b, o, none⟩ = some v) (hb : b < W.heap.size) (hn : b ≠ cb) : W1.cell? ⟨b, o, none⟩ = some v := grownBy_cell h.fr hb hn hc
end
set_option maxHeartbeats 1000000 in
set_option maxRecDepth 100000 in
theorem l_order2 (L : LaysGg.n39 P ρ) (E : SE P α) (hL : E.LessL) (W : World) (d : Array α) (a b cb s : Nat) (h : Cn E W W d cb s) (ha : a < E.size) (hb : b < E.size) (hs : s < 4611686018427387904) :
  Calls P (ρ.f 39) #[.agg #[.func (.func E.g) #[] E.lb, .func (.func E.sf) #[] E.sb], .int .i64 a, .int .i64 b, .pointer (some ⟨cb, 0, none⟩)] W fun e w' =>
   e = .returned (.tuple #[.int .i64 (order2 E.lt d a b s).1, .int .i64 (order2 E.lt d a b s).2.1]) ∧ Cn E W w' d cb (order2 E.lt d a b s).2.2 := by
 have mixed := L.mixed
 have t0 := L.t0; have a0 := L.a0; have z0 := L.z0; have v0 := L.v0
 have t3 := L.t3; have a3 := L.a3; have z3 := L.z3; have v3 := L.v3
 have t4 := L.t4; have a4 := L.a4; have z4 := L.z4; have v4 := L.v4
 have t26 := L.t26; have a26 := L.a26; have z26 := L.z26; have v26 := L.v26
 have t37 := L.t37; have a37 := L.a37; have z37 := L.z37; have v37 := L.v37
 have t44 := L.t44; have a44 := L.a44; have z44 := L.z44; have v44 := L.v44
 have t64 := L.t64; have a64 := L.a64; have z64 := L.z64; have v64 := L.v64
 have u44 := run_underlying L.t44
 have eg := E.eg
 have I := In.start h.st (ρ.t 44)
 have C1 := Aside0.mk (h.below (below_alloc1 W (.cells #[.func (.func E.g) #[] E.lb, .func (.func E.sf) #[] E.sb] (ρ.t 44))))
 have hlc := h.lt
 clear h
 cases hlv : E.lt d[b]! d[a]! with
 | true =>
  have hl := hL _ d I.st b a hb ha
  rw [hlv] at hl
  have e2 : order2 E.lt d a b s = (b, a, s + 1) := by simp [order2, hlv]
  rw [e2]
  clear I hlv e2
  go_enter L.f39, BodyGg.n39_ntmps ρ
  go_wp2_with (go_at_fn E.g; refine hl.mono ?_; rintro e w' ⟨rfl, hbl⟩; have C2 := C1.out.below hbl; have cs := C2.cc; have fs := C2.cf; replace C2 := Aside0.mk C2; clear hbl)
  go_ret2
  exact ⟨rfl, C2.out.inc (by simp)⟩
 | false =>
  have hl := hL _ d I.st b a hb ha
  rw [hlv] at hl
  have e2 : order2 E.lt d a b s = (a, b, s) := by simp [order2, hlv]
  rw [e2]
  clear I hlv e2
  go_enter L.f39, BodyGg.n39_ntmps ρ
  go_wp2_with (go_at_fn E.g; refine hl.mono ?_; rintro e w' ⟨rfl, hbl⟩; have C2 := C1.out.below hbl; replace C2 := Aside0.mk C2; clear hbl)
  go_ret2
  exact ⟨rfl, C2.out⟩
set_option maxHeartbeats 1000000 in
set_option maxRecDepth 100000 in
theorem l_median (L : LaysGg.n38 P ρ) (E : SE P α) (hL : E.LessL) (W : World) (d : Array α) (a b c cb s : Nat) (h : Cn E W W d cb s) (ha : a < E.size) (hb : b < E.size) (hc : c < E.size) (hs : s + 3 < 4611686018427387904) :
  Calls P (ρ.f 38) #[.agg #[.func (.func E.g) #[] E.lb, .func (.func E.sf) #[] E.sb], .int .i64 a, .int .i64 b, .int .i64 c, .pointer (some ⟨cb, 0, none⟩)] W fun e w' =>
   e = .returned (.int .i64 (median E.lt d a b c s).1) ∧ Cn E W w' d cb (median E.lt d a b c s).2 := by
 have mixed := L.mixed
 have t0 := L.t0; have a0 := L.a0; have z0 := L.z0; have v0 := L.v0
 have t3 := L.t3; have a3 := L.a3; have z3 := L.z3; have v3 := L.v3
 have t4 := L.t4; have a4 := L.a4; have z4 := L.z4; have v4 := L.v4
 have t26 := L.t26; have a26 := L.a26; have z26 := L.z26; have v26 := L.v26
 have t37 := L.t37; have a37 := L.a37; have z37 := L.z37; have v37 := L.v37
 have t44 := L.t44; have a44 := L.a44; have z44 := L.z44; have v44 := L.v44
 have t64 := L.t64; have a64 := L.a64; have z64 := L.z64; have v64 := L.v64
 have t67 := L.t67; have a67 := L.a67; have z67 := L.z67; have v67 := L.v67
 have u44 := run_underlying L.t44
 have eg := E.eg
 have e39 : ∀ args w, (callFunc (ρ.f 39) args).run P w = .ok (.enter (ρ.f 39) args) w := enters_of L.f39 (by kernel_rfl) rfl
 have l1 := order2_lt' E.lt d s ha hb
 have s1 := order2_swaps' E.lt d a b s
 have l2 := order2_lt' E.lt d (order2 E.lt d a b s).2.2 l1.2 hc
 have s2 := order2_swaps' E.lt d (order2 E.lt d a b s).2.1 c (order2 E.lt d a b s).2.2
 have hlc := h.lt
 have C1 := (h.below (below_alloc1 W (.cells #[.func (.func E.g) #[] E.lb, .func (.func E.sf) #[] E.sb] (ρ.t 44)))).self
 have step : ∀ (W1 : World) (t a' b' : Nat), Cn E (W.alloc (.cells #[.func (.func E.g) #[] E.lb, .func (.func E.sf) #[] E.sb] (ρ.t 44))) W1 d cb t → a' < E.size → b' < E.size → t < 4611686018427387904 →
   Calls P (ρ.f 39) #[.agg #[.func (.func E.g) #[] E.lb, .func (.func E.sf) #[] E.sb], .int .i64 a', .int .i64 b', .pointer (some ⟨cb, 0, none⟩)] W1 fun e w' =>
    e = .returned (.tuple #[.int .i64 (order2 E.lt d a' b' t).1, .int .i64 (order2 E.lt d a' b' t).2.1]) ∧ Cn E (W.alloc (.cells #[.func (.func E.g) #[] E.lb, .func (.func E.sf) #[] E.sb] (ρ.t 44))) w' d cb (order2 E.lt d a' b' t).2.2 := fun W1 t a' b' hC ha' hb' ht =>
  (l_order2 (P := P) (ρ := ρ) { L with } E hL W1 d a' b' cb t hC.self ha' hb' ht).mono fun _ _ ⟨he, hk⟩ => ⟨he, hC.trans hk⟩
 have step0 := step _ s a b C1 ha hb (by omega)
 have B0 : Aside0 (∀ (W1 : World) (t : Nat), Cn E (W.alloc (.cells #[.func (.func E.g) #[] E.lb, .func (.func E.sf) #[] E.sb] (ρ.t 44))) W1 d cb t → W1.cell? ⟨W.heap.size, 0, none⟩ = some (.func (.func E.g) #[] E.lb)) := ⟨fun W1 t hC => hC.cell (by simp) (by simp) (by omega)⟩
 have B1 : Aside0 (∀ (W1 : World) (t : Nat), Cn E (W.alloc (.cells #[.func (.func E.g) #[] E.lb, .func (.func E.sf) #[] E.sb] (ρ.t 44))) W1 d cb t → W1.cell? ⟨W.heap.size, 1, none⟩ = some (.func (.func E.sf) #[] E.sb)) := ⟨fun W1 t hC => hC.cell (by simp) (by simp) (by omega)⟩
 clear h C1
 go_enter L.f38, BodyGg.n38_ntmps ρ
 go_wp2_with (go_at_fn_of (ρ.f 39) (Value.int .i64 (b : Int)); refine step0.mono ?_; rintro e w1 ⟨rfl, N1⟩; have p0 := B0.out w1 _ N1; have p1 := B1.out w1 _ N1; replace N1 := Aside0.mk N1)
 go_wp2_with (go_at_fn_of (ρ.f 39) (Value.int .i64 (c : Int)); refine (step _ _ _ c N1.out l1.2 hc (by omega)).mono ?_; rintro e w2 ⟨rfl, N2⟩; have q0 := B0.out w2 _ N2; have q1 := B1.out w2 _ N2; replace N2 := Aside0.mk N2)
 go_wp2_with (go_at_fn_of (ρ.f 39) (Value.int .i64 ((order2 E.lt d a b s).1 : Int)); refine (step _ _ _ _ N2.out l1.1 l2.1 (by omega)).mono ?_; rintro e w3 ⟨rfl, N3⟩; replace N3 := Aside0.mk N3)
 go_ret
 exact ⟨rfl, N3.out.ahead (below_alloc1 W _) hlc⟩
set_option maxHeartbeats 1000000 in
set_option maxRecDepth 100000 in
theorem l_medianAdjacent (L : LaysGg.n37 P ρ) (E : SE P α) (hL : E.LessL) (W : World) (d : Array α) (a cb s : Nat) (h : Cn E W W d cb s) (ha1 : 1 ≤ a) (ha2 : a + 1 < E.size) (hs : s + 3 < 4611686018427387904) :
  Calls P (ρ.f 37) #[.agg #[.func (.func E.g) #[] E.lb, .func (.func E.sf) #[] E.sb], .int .i64 a, .pointer (some ⟨cb, 0, none⟩)] W fun e w' =>
   e = .returned (.int .i64 (medianAdjacent E.lt d a s).1) ∧ Cn E W w' d cb (medianAdjacent E.lt d a s).2 := by
 have mixed := L.mixed
 have t0 := L.t0; have a0 := L.a0; have z0 := L.z0; have v0 := L.v0
 have t3 := L.t3; have a3 := L.a3; have z3 := L.z3; have v3 := L.v3
 have t4 := L.t4; have a4 := L.a4; have z4 := L.z4; have v4 := L.v4
 have t26 := L.t26; have a26 := L.a26; have z26 := L.z26; have v26 := L.v26
 have t37 := L.t37; have a37 := L.a37; have z37 := L.z37; have v37 := L.v37
 have t44 := L.t44; have a44 := L.a44; have z44 := L.z44; have v44 := L.v44
 have t64 := L.t64; have a64 := L.a64; have z64 := L.z64; have v64 := L.v64
 have t67 := L.t67; have a67 := L.a67; have z67 := L.z67; have v67 := L.v67
 have u44 := run_underlying L.t44
 have hsz := E.hsz
 have e38 : ∀ args w, (callFunc (ρ.f 38) args).run P w = .ok (.enter (ρ.f 38) args) w := enters_of L.f38 (by kernel_rfl) rfl
 have hlc := h.lt
 have hm := l_median (P := P) (ρ := ρ) { L with } E hL _ d (a - 1) a (a + 1) cb s (h.below (below_alloc1 W (.cells #[.func (.func E.g) #[] E.lb, .func (.func E.sf) #[] E.sb] (ρ.t 44)))).self (by omega) (by omega) ha2 hs
 rw [show ((a - 1 : Nat) : Int) = (a : Int) - 1 by omega, show ((a + 1 : Nat) : Int) = (a : Int) + 1 by omega] at hm
 clear h
 go_enter L.f37, BodyGg.n37_ntmps ρ
 go_wp2_with (go_at_fn (ρ.f 38); refine hm.mono ?_; rintro e w' ⟨rfl, N⟩; replace N := Aside0.mk N)
 go_ret
 exact ⟨rfl, N.out.ahead (below_alloc1 W _) hlc⟩
structure Pv (E : SE P α) (W W' : World) (d : Array α) (s : Nat) : Prop where
 st : St E W' d
 cn : Cn E W' W' d (W.heap.size + 1) s
 c0 : W'.cell? ⟨W.heap.size, 0, none⟩ = some (.func (.func E.g) #[] E.lb)
 c1 : W'.cell? ⟨W.heap.size, 1, none⟩ = some (.func (.func E.sf) #[] E.sb)
 fr : Go.RowKit.Below W.heap.size W W'
section
variable {E : SE P α} {W W1 W2 : World} {d : Array α} {s s2 : Nat}
theorem Pv.start (h : St E W d) (t t3 : TypeId) : Pv E W ((W.alloc (.cells #[.func (.func E.g) #[] E.lb, .func (.func E.sf) #[] E.sb] t)).alloc (.cells #[.int .i64 0] t3)) d 0 := by
 have hb : Go.RowKit.Below W.heap.size W ((W.alloc (.cells #[.func (.func E.g) #[] E.lb, .func (.func E.sf) #[] E.sb] t)).alloc (.cells #[.int .i64 0] t3)) := below_alloc (below_alloc1 W _) _
 refine ⟨h.below hb, Cn.start (h.below hb) ?_ ?_ (by simp) (by have := h.gr.size; omega), ?_, ?_, hb⟩
 ·rw [World.cell?_alloc_at _ _ _ _ (by simp)]; rfl
 ·exact World.frozen?_alloc_at _ _ _ _ (by simp)
 ·rw [World.cell?_alloc_past _ _ _ (by simp)]; simp
 ·rw [World.cell?_alloc_past _ _ _ (by simp)]; simp
theorem Pv.step (h : Pv E W W1 d s) (k : Cn E W1 W2 d (W.heap.size + 1) s2) : Pv E W W2 d s2 := by
 have hl := h.cn.lt
 refine ⟨k.st, k.self, k.cell h.c0 (by omega) (by omega), k.cell h.c1 (by omega) (by omega), ?_⟩
 exact ⟨k.fr.os.trans h.fr.os, k.fr.tape.trans h.fr.tape, k.fr.output.trans h.fr.output, Nat.le_trans h.fr.size k.fr.size, fun j hj => (k.fr.block j (by omega) (fun e => by have := Option.some.inj e; omega)).trans (h.fr.block j hj)⟩
end
set_option maxHeartbeats 2000000 in
set_option maxRecDepth 100000 in
theorem l_choosePivot (L : LaysGg.n29 P ρ) (E : SE P α) (hL : E.LessL) (a b : Nat) (W : World) (d : Array α) (h0 : St E W d) (hab : a < b) (hb : b ≤ E.size) :
  Calls P (ρ.f 29) #[.agg #[.func (.func E.g) #[] E.lb, .func (.func E.sf) #[] E.sb], .int .i64 a, .int .i64 b] W fun e w' =>
   e = .returned (.tuple #[.int .i64 (choosePivot E.lt d a b).1, .int .i64 (hintCode (choosePivot E.lt d a b).2)]) ∧ Go.RowKit.Below W.heap.size W w' := by
 have mixed := L.mixed
 have t0 := L.t0; have a0 := L.a0; have z0 := L.z0; have v0 := L.v0
 have t3 := L.t3; have a3 := L.a3; have z3 := L.z3; have v3 := L.v3
 have t4 := L.t4; have a4 := L.a4; have z4 := L.z4; have v4 := L.v4
 have t26 := L.t26; have a26 := L.a26; have z26 := L.z26; have v26 := L.v26
 have t37 := L.t37; have a37 := L.a37; have z37 := L.z37; have v37 := L.v37
 have t44 := L.t44; have a44 := L.a44; have z44 := L.z44; have v44 := L.v44
 have t53 := L.t53; have a53 := L.a53; have z53 := L.z53; have v53 := L.v53
 have t64 := L.t64; have a64 := L.a64; have z64 := L.z64; have v64 := L.v64
 have t67 := L.t67; have a67 := L.a67; have z67 := L.z67; have v67 := L.v67
 have u44 := run_underlying L.t44
 have hsz := E.hsz
 have e37 : ∀ args w, (callFunc (ρ.f 37) args).run P w = .ok (.enter (ρ.f 37) args) w := enters_of L.f37 (by kernel_rfl) rfl
 have e38 : ∀ args w, (callFunc (ρ.f 38) args).run P w = .ok (.enter (ρ.f 38) args) w := enters_of L.f38 (by kernel_rfl) rfl
 have P0 := Aside0.mk (Pv.start h0 (ρ.t 44) (ρ.t 3))
 have MA : ∀ (W1 : World) (x s : Nat), Pv E W W1 d s → 1 ≤ x → x + 1 < E.size → s + 3 < 4611686018427387904 → Calls P (ρ.f 37) #[.agg #[.func (.func E.g) #[] E.lb, .func (.func E.sf) #[] E.sb], .int .i64 x, .pointer (some ⟨W.heap.size + 1, 0, none⟩)] W1 fun e w' => e = .returned (.int .i64 (medianAdjacent E.lt d x s).1) ∧ Pv E W w' d (medianAdjacent E.lt d x s).2 := fun W1 x s hP h1 h2 h3 =>
  (l_medianAdjacent (P := P) (ρ := ρ) { L with } E hL W1 d x _ s hP.cn h1 h2 h3).mono fun _ _ ⟨he, hk⟩ => ⟨he, hP.step hk⟩
 have MD : ∀ (W1 : World) (x y z s : Nat), Pv E W W1 d s → x < E.size → y < E.size → z < E.size → s + 3 < 4611686018427387904 → Calls P (ρ.f 38) #[.agg #[.func (.func E.g) #[] E.lb, .func (.func E.sf) #[] E.sb], .int .i64 x, .int .i64 y, .int .i64 z, .pointer (some ⟨W.heap.size + 1, 0, none⟩)] W1 fun e w' => e = .returned (.int .i64 (median E.lt d x y z s).1) ∧ Pv E W w' d (median E.lt d x y z s).2 := fun W1 x y z s hP h1 h2 h3 h4 =>
  (l_median (P := P) (ρ := ρ) { L with } E hL W1 d x y z _ s hP.cn h1 h2 h3 h4).mono fun _ _ ⟨he, hk⟩ => ⟨he, hP.step hk⟩
 clear h0
 rw [choosePivot_eq]
 obtain ⟨I, hI⟩ : ∃ I : Nat, I = a + (b - a) / 4 * 1 := ⟨_, rfl⟩
 obtain ⟨J, hJ⟩ : ∃ J : Nat, J = a + (b - a) / 4 * 2 := ⟨_, rfl⟩
 obtain ⟨K, hK⟩ : ∃ K : Nat, K = a + (b - a) / 4 * 3 := ⟨_, rfl⟩
 have eI : ((a : Int) + ((b : Int) - (a : Int)) / 4) = (I : Int) := by omega
 have eJ : ((a : Int) + ((b : Int) - (a : Int)) / 4 * 2) = (J : Int) := by omega
 have eK : ((a : Int) + ((b : Int) - (a : Int)) / 4 * 3) = (K : Int) := by omega
 by_cases h8 : b - a ≥ 8
 ·by_cases h50 : b - a ≥ 50
  ·obtain ⟨i1, s1, h1⟩ : ∃ i1 s1, medianAdjacent E.lt d I 0 = (i1, s1) := ⟨_, _, rfl⟩
   obtain ⟨j1, s2, h2⟩ : ∃ j1 s2, medianAdjacent E.lt d J s1 = (j1, s2) := ⟨_, _, rfl⟩
   obtain ⟨k1, s3, h3⟩ : ∃ k1 s3, medianAdjacent E.lt d K s2 = (k1, s3) := ⟨_, _, rfl⟩
   obtain ⟨p, s, h4⟩ : ∃ p s, median E.lt d i1 j1 k1 s3 = (p, s) := ⟨_, _, rfl⟩
   have hraw : rawPivot E.lt d a b = (p, s) := by simp only [rawPivot, if_pos h8, if_pos h50, ← hI, ← hJ, ← hK, h1, h2, h3, h4]
   have m1 := medianAdjacent_mem E.lt d I 0; rw [h1] at m1
   have m2 := medianAdjacent_mem E.lt d J s1; rw [h2] at m2
   have m3 := medianAdjacent_mem E.lt d K s2; rw [h3] at m3
   have n1 := medianAdjacent_count E.lt d I 0; rw [h1] at n1
   have n2 := medianAdjacent_count E.lt d J s1; rw [h2] at n2
   have n3 := medianAdjacent_count E.lt d K s2; rw [h3] at n3
   simp only [] at m1 m2 m3 n1 n2 n3
   have c1 := MA _ I 0 P0.out (by omega) (by omega) (by omega)
   rw [h1] at c1
   have c2 := fun W1 hP => MA W1 J s1 hP (by omega) (by omega) (by omega)
   rw [h2] at c2
   have c3 := fun W1 hP => MA W1 K s2 hP (by omega) (by omega) (by omega)
   rw [h3] at c3
   have c4 := fun W1 hP => MD W1 i1 j1 k1 s3 hP (by omega) (by omega) (by omega) (by omega)
   rw [h4] at c4
   rw [hraw]
   clear hraw h1 h2 h3 h4 MA MD hI hJ hK m1 m2 m3
   by_cases h0 : s = 0
   ·subst h0
    go_enter L.f29, BodyGg.n29_ntmps ρ
    go_wp2_with (first | (go_at_fn_of (ρ.f 37) (Value.int .i64 (I : Int)); refine c1.mono ?_; rintro e w1 ⟨rfl, N1⟩; have p0 := N1.c0; have p1 := N1.c1; replace N1 := Aside0.mk N1) | (go_at_fn_of (ρ.f 37) (Value.int .i64 (J : Int)); refine (c2 _ N1.out).mono ?_; rintro e w2 ⟨rfl, N2⟩; have q0 := N2.c0; have q1 := N2.c1; replace N2 := Aside0.mk N2) | (go_at_fn_of (ρ.f 37) (Value.int .i64 (K : Int)); refine (c3 _ N2.out).mono ?_; rintro e w3 ⟨rfl, N3⟩; have r0 := N3.c0; have r1 := N3.c1; replace N3 := Aside0.mk N3) | (go_at_fn (ρ.f 38); refine (c4 _ N3.out).mono ?_; rintro e w4 ⟨rfl, N4⟩; have cs := N4.cn.cc; replace N4 := Aside0.mk N4.fr))
    go_ret2
    exact ⟨rfl, N4.out⟩
   ·by_cases h12 : s = 12
    ·subst h12
     go_enter L.f29, BodyGg.n29_ntmps ρ
     go_wp2_with (first | (go_at_fn_of (ρ.f 37) (Value.int .i64 (I : Int)); refine c1.mono ?_; rintro e w1 ⟨rfl, N1⟩; have p0 := N1.c0; have p1 := N1.c1; replace N1 := Aside0.mk N1) | (go_at_fn_of (ρ.f 37) (Value.int .i64 (J : Int)); refine (c2 _ N1.out).mono ?_; rintro e w2 ⟨rfl, N2⟩; have q0 := N2.c0; have q1 := N2.c1; replace N2 := Aside0.mk N2) | (go_at_fn_of (ρ.f 37) (Value.int .i64 (K : Int)); refine (c3 _ N2.out).mono ?_; rintro e w3 ⟨rfl, N3⟩; have r0 := N3.c0; have r1 := N3.c1; replace N3 := Aside0.mk N3) | (go_at_fn (ρ.f 38); refine (c4 _ N3.out).mono ?_; rintro e w4 ⟨rfl, N4⟩; have cs := N4.cn.cc; replace N4 := Aside0.mk N4.fr))
     go_ret2
     exact ⟨rfl, N4.out⟩
    ·have z0 : ((s : Int) == 0) = false := beq_eq_false_iff_ne.2 (by omega)
     have z12 : ((s : Int) == 12) = false := beq_eq_false_iff_ne.2 (by omega)
     have hh : hintOf s = .unknown := by unfold hintOf; rw [if_neg h0, if_neg h12]
     rw [hh]
     go_enter L.f29, BodyGg.n29_ntmps ρ
     go_wp2_with (first | (go_at_fn_of (ρ.f 37) (Value.int .i64 (I : Int)); refine c1.mono ?_; rintro e w1 ⟨rfl, N1⟩; have p0 := N1.c0; have p1 := N1.c1; replace N1 := Aside0.mk N1) | (go_at_fn_of (ρ.f 37) (Value.int .i64 (J : Int)); refine (c2 _ N1.out).mono ?_; rintro e w2 ⟨rfl, N2⟩; have q0 := N2.c0; have q1 := N2.c1; replace N2 := Aside0.mk N2) | (go_at_fn_of (ρ.f 37) (Value.int .i64 (K : Int)); refine (c3 _ N2.out).mono ?_; rintro e w3 ⟨rfl, N3⟩; have r0 := N3.c0; have r1 := N3.c1; replace N3 := Aside0.mk N3) | (go_at_fn (ρ.f 38); refine (c4 _ N3.out).mono ?_; rintro e w4 ⟨rfl, N4⟩; have cs := N4.cn.cc; replace N4 := Aside0.mk N4.fr))
     go_ret2
     exact ⟨rfl, N4.out⟩
  ·obtain ⟨p, s, h4⟩ : ∃ p s, median E.lt d I J K 0 = (p, s) := ⟨_, _, rfl⟩
   have hraw : rawPivot E.lt d a b = (p, s) := by simp only [rawPivot, if_pos h8, if_neg h50, ← hI, ← hJ, ← hK, h4]
   have c4 := MD _ I J K 0 P0.out (by omega) (by omega) (by omega) (by omega)
   rw [h4] at c4
   rw [hraw]
   clear hraw h4 MA MD hI hJ hK
   by_cases h0 : s = 0
   ·subst h0
    go_enter L.f29, BodyGg.n29_ntmps ρ
    go_wp2_with (first | (go_at_fn (ρ.f 38); refine c4.mono ?_; rintro e w4 ⟨rfl, N4⟩; have cs := N4.cn.cc; replace N4 := Aside0.mk N4.fr))
    go_ret2
    exact ⟨rfl, N4.out⟩
   ·by_cases h12 : s = 12
    ·subst h12
     go_enter L.f29, BodyGg.n29_ntmps ρ
     go_wp2_with (first | (go_at_fn (ρ.f 38); refine c4.mono ?_; rintro e w4 ⟨rfl, N4⟩; have cs := N4.cn.cc; replace N4 := Aside0.mk N4.fr))
     go_ret2
     exact ⟨rfl, N4.out⟩
    ·have z0 : ((s : Int) == 0) = false := beq_eq_false_iff_ne.2 (by omega)
     have z12 : ((s : Int) == 12) = false := beq_eq_false_iff_ne.2 (by omega)
     have hh : hintOf s = .unknown := by unfold hintOf; rw [if_neg h0, if_neg h12]
     rw [hh]
     go_enter L.f29, BodyGg.n29_ntmps ρ
     go_wp2_with (first | (go_at_fn (ρ.f 38); refine c4.mono ?_; rintro e w4 ⟨rfl, N4⟩; have cs := N4.cn.cc; replace N4 := Aside0.mk N4.fr))
     go_ret2
     exact ⟨rfl, N4.out⟩
 ·have hraw : rawPivot E.lt d a b = (J, 0) := by simp only [rawPivot, if_neg h8, ← hJ]
  rw [hraw]
  have cs := P0.out.cn.cc
  have N4 := Aside0.mk P0.out.fr
  clear MA MD hI hJ hK hraw
  go_enter L.f29, BodyGg.n29_ntmps ρ
  go_wp2
  go_ret2
  exact ⟨rfl, N4.out⟩
end Go.Proofs.Ytkdendlgaaimbaa.X
