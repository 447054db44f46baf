/- A sort whose 'less' may lay blocks of its own: what each step keeps; insertion sort, sift down, heap sort. Over any program that bears the library's bodies. Conditions: fewer than 2^62 elements. -/
import Derived.Shelf.SlSortFuncK.ComposeK
import Derived.Shelf.GgSortFunc.SmallK
import Derived.Shelf.GgSortFunc.LotD
import Derived.Sort.WalkB3
import Derived.Below
import Derived.Test.YtbbkimgadohdkaaXSortRow
namespace Go.Proofs.Ytbbkimgadohdkaa.X
open Go.Shelf Go.RowKit Go.Lib Go.Sort Go.Proofs.YtbbkimgadohdkaaW.PrintWords
set_option linter.unusedVariables false
set_option linter.unusedSimpArgs false
variable {P : Program} {ρ : Ren} {α : Type} [Inhabited α]

/-- what a sort works on: the elements' cells, the order, the closure 'less', the function 'swap', the row's block, the caller's world -/
structure SE (P : Program) (α : Type) where
  enc : α → List Value
  k : Nat
  hk : ∀ x, (enc x).length = k
  lt : α → α → Bool
  g : Nat
  lb : Array Value
  sf : Nat
  sb : Array Value
  blk : Nat
  ty : Nat
  cs : Nat
  size : Nat
  w0 : World
  eg : ∀ args w, (callFunc g args).run P w = .ok (.enter g args) w
  hsz : size < 4611686018427387904
  hb : blk < w0.heap.size

/-- a world that the sort passes through: the row holds d, all else that the caller had stands -/
structure St (E : SE P α) (W : World) (d : Array α) : Prop where
  sz : d.size = E.size
  gr : E.w0.grownBy W (some E.blk)
  ho : HoldsK E.enc E.k W E.blk 0 d
  sh : ∃ cur, W.heap[E.blk]? = some (.cells cur E.ty (0, 0)) ∧ cur.size = E.cs
/-- 'less' answers by the order and changes nothing that stood -/
def SE.LessL (E : SE P α) : Prop := ∀ (W : World) (d : Array α), St E W d → ∀ i j : Nat, i < E.size → j < E.size →
  Calls P E.g (#[.int .i64 i, .int .i64 j] ++ E.lb) W fun e w' => e = .returned (.bool (E.lt d[i]! d[j]!)) ∧ Go.RowKit.Below W.heap.size W w'
def SE.SwapL (E : SE P α) : Prop := SwapSwapsK P E.sf E.sb E.enc E.k E.blk 0 E.size

theorem grownBy_of_below {w w' : World} {r : Option Nat} (h : Go.RowKit.Below w.heap.size w w') : w.grownBy w' r := ⟨h.os, h.tape, h.output, h.size, fun k hk _ => h.block k hk⟩
theorem grownBy_refl (w : World) (r : Option Nat) : w.grownBy w r := ⟨rfl, rfl, rfl, Nat.le_refl _, fun _ _ _ => rfl⟩
theorem grownBy_then {w w1 w2 : World} {r : Option Nat} (h : w.grownBy w1 r) (k : w1.grownBy w2 r) : w.grownBy w2 r :=
  ⟨k.os.trans h.os, k.tape.trans h.tape, k.output.trans h.output, Nat.le_trans h.size k.size, fun j hj hn => (k.block j (Nat.lt_of_lt_of_le hj h.size) hn).trans (h.block j hj hn)⟩
theorem grownBy_cell {w w' : World} {r : Nat} (h : w.grownBy w' (some r)) {b o : Nat} {v : Value} (hb : b < w.heap.size) (hn : b ≠ r) (hc : w.cell? ⟨b, o, none⟩ = some v) : w'.cell? ⟨b, o, none⟩ = some v := by
  rw [World.cell?_of_block (h.block b hb (fun e => hn (Option.some.inj e))), hc]
theorem holdsK_block {enc : α → List Value} {k : Nat} {W W' : World} {blk : Nat} {d : Array α} (h : HoldsK enc k W blk 0 d) (e : W'.heap[blk]? = W.heap[blk]?) : HoldsK enc k W' blk 0 d := fun j hj =>
  ⟨(World.cell?_of_block (a := ⟨blk, 0 + j, none⟩) e).trans (h j hj).1, (World.frozen?_of_block (a := ⟨blk, 0 + j, none⟩) e).trans (h j hj).2⟩

section
variable {E : SE P α} {w W W' : World} {d d' : Array α}
theorem St.lt (h : St E W d) : E.blk < W.heap.size := by obtain ⟨cur, h1, _⟩ := h.sh; exact (Array.getElem?_eq_some_iff.1 h1).1
/-- the row's block is as it was -/
theorem St.keep (h : St E W d) {r : Option Nat} (hg : W.grownBy W' r) (hr : ∀ k, r = some k → E.w0.heap.size ≤ k) : St E W' d := by
  have hb := h.lt
  have he : W'.heap[E.blk]? = W.heap[E.blk]? := hg.block _ hb (fun e => by have := hr _ e.symm; have := E.hb; omega)
  refine ⟨h.sz, ?_, holdsK_block h.ho he, by rw [he]; exact h.sh⟩
  exact ⟨hg.os.trans h.gr.os, hg.tape.trans h.gr.tape, hg.output.trans h.gr.output, Nat.le_trans h.gr.size hg.size, fun j hj hn => (hg.block j (Nat.lt_of_lt_of_le hj h.gr.size) (fun e => by have := hr _ e.symm; omega)).trans (h.gr.block j hj hn)⟩
theorem St.below (h : St E W d) (hb : Go.RowKit.Below W.heap.size W W') : St E W' d := h.keep (r := none) (grownBy_of_below hb) (fun k e => by cases e)
theorem St.start (hH : HoldsK E.enc E.k E.w0 E.blk 0 d) (hs : d.size = E.size) (h : ∃ cur, E.w0.heap[E.blk]? = some (.cells cur E.ty (0, 0)) ∧ cur.size = E.cs) : St E E.w0 d := ⟨hs, grownBy_refl _ _, hH, h⟩
/-- the row holds another row: nothing else turns -/
theorem St.put (h : St E W d) (hs : d'.size = d.size) : St E (putRowK E.enc E.k W E.blk 0 d') d' ∧ W.grownBy (putRowK E.enc E.k W E.blk 0 d') (some E.blk) := by
  have hg : W.grownBy (putRowK E.enc E.k W E.blk 0 d') (some E.blk) := by
    refine ⟨rfl, rfl, rfl, by rw [size_putRowK]; exact Nat.le_refl _, fun j _ hne => ?_⟩
    have : E.blk ≠ j := fun e => hne (by rw [e])
    simp [putRowK, putRow, mapBlock, Array.getElem?_modify, this]
  refine ⟨⟨hs.trans h.sz, grownBy_then h.gr hg, holdsK_putRowK E.enc E.k W E.blk 0 d d' h.ho hs, ?_⟩, hg⟩
  obtain ⟨cur, h1, h2⟩ := h.sh
  refine ⟨putCells id 0 (flatK E.enc E.k d') cur, ?_, by simp [putCells, h2]⟩
  simp [putRowK, putRow, mapBlock, Array.getElem?_modify, h1, onCells]
theorem St.swap (h : St E W d) (hS : E.SwapL) {i j : Nat} (hi : i < E.size) (hj : j < E.size) {x y : Int} (hx : x = i) (hy : y = j) :
    ∃ W', (callFunc E.sf (#[.int .i64 x, .int .i64 y] ++ E.sb)).run P W = .ok (.value (.tuple #[])) W' ∧ St E W' (swp d i j) ∧ W.grownBy W' (some E.blk) := by
  subst hx; subst hy
  have hr := hS W d h.ho h.sz i j hi hj
  rw [← putRowK_self E.enc E.k W E.blk 0 d h.ho, putRowK_swp E.enc E.k E.hk W E.blk 0 d i j (by rw [h.sz]; exact hi) (by rw [h.sz]; exact hj), putRowK_self E.enc E.k W E.blk 0 d h.ho] at hr
  obtain ⟨h1, h2⟩ := h.put (d' := swp d i j) (size_swp _ _ _)
  exact ⟨_, hr, h1, h2⟩

/-- inside one of the sort's functions: its own box of 'data' stands -/
structure In (E : SE P α) (w W : World) (d : Array α) : Prop where
  st : St E W d
  c0 : W.cell? ⟨w.heap.size, 0, none⟩ = some (.func (.func E.g) #[] E.lb)
  c1 : W.cell? ⟨w.heap.size, 1, none⟩ = some (.func (.func E.sf) #[] E.sb)
  fr : w.grownBy W (some E.blk)
  lt : w.heap.size < W.heap.size
  ne : E.blk < w.heap.size
theorem below_alloc1 (w : World) (o : Obj) : Go.RowKit.Below w.heap.size w (w.alloc o) := (Go.RowKit.Below.refl _ _).alloc (Nat.le_refl _) _
theorem In.start (h : St E w d) (t : TypeId) : In E w (w.alloc (.cells #[.func (.func E.g) #[] E.lb, .func (.func E.sf) #[] E.sb] t)) d :=
  ⟨h.below (below_alloc1 w _), by simp, by simp, grownBy_of_below (below_alloc1 w _), by simp, h.lt⟩
theorem In.step (h : In E w W d) (s : St E W' d') (g : W.grownBy W' (some E.blk)) : In E w W' d' :=
  ⟨s, grownBy_cell g h.lt (by have := h.ne; omega) h.c0, grownBy_cell g h.lt (by have := h.ne; omega) h.c1, grownBy_then h.fr g, Nat.lt_of_lt_of_le h.lt g.size, h.ne⟩
theorem In.less (h : In E w W d) (hL : E.LessL) {i j : Nat} (hi : i < E.size) (hj : j < E.size) {x y : Int} (hx : x = i) (hy : y = j) {v : Bool} (hv : E.lt d[i]! d[j]! = v) :
    Calls P E.g (#[.int .i64 x, .int .i64 y] ++ E.lb) W fun e w' => e = .returned (.bool v) ∧ In E w w' d := by
  subst hx; subst hy; subst hv
  exact (hL W d h.st i j hi hj).mono fun e w' ⟨he, hb⟩ => ⟨he, h.step (h.st.below hb) (grownBy_of_below hb)⟩
theorem In.swap (h : In E w W d) (hS : E.SwapL) {i j : Nat} (hi : i < E.size) (hj : j < E.size) {x y : Int} (hx : x = i) (hy : y = j) :
    ∃ W', (callFunc E.sf (#[.int .i64 x, .int .i64 y] ++ E.sb)).run P W = .ok (.value (.tuple #[])) W' ∧ In E w W' (swp d i j) := by
  obtain ⟨W', h1, h2, h3⟩ := h.st.swap hS hi hj hx hy
  exact ⟨W', h1, h.step h2 h3⟩
end

set_option maxHeartbeats 2000000 in
set_option maxRecDepth 100000 in
theorem l_insertionSort (L : LaysGg.n26 P ρ) (E : SE P α) (hL : E.LessL) (hS : E.SwapL) (a b : Nat) (d : Array α) (w : World) (h0 : St E w d) (hab : a ≤ b) (hb : b ≤ E.size) :
    Calls P (ρ.f 26) #[.agg #[.func (.func E.g) #[] E.lb, .func (.func E.sf) #[] E.sb], .int .i64 a, .int .i64 b] w fun e w' => e = .returned (.tuple #[]) ∧ St E w' (Sort.insertionSort E.lt d a b) ∧ w.grownBy w' (some E.blk) := by
  have mixed := L.mixed
  have t0 := L.t0; have a0 := L.a0; have z0 := L.z0; have v0 := L.v0
  have t3 := L.t3; have a3 := L.a3; have z3 := L.z3; have v3 := L.v3
  have t4 := L.t4; have a4 := L.a4; have z4 := L.z4; have v4 := L.v4
  have t26 := L.t26; have a26 := L.a26; have z26 := L.z26; have v26 := L.v26
  have t37 := L.t37; have a37 := L.a37; have z37 := L.z37; have v37 := L.v37
  have t44 := L.t44; have a44 := L.a44; have z44 := L.z44; have v44 := L.v44
  have u44 := run_underlying L.t44
  have eg := E.eg
  have hsz := E.hsz
  have I0 := Aside0.mk (In.start h0 (ρ.t 44))
  clear h0
  go_enter L.f26, BodyGg.n26_ntmps ρ
  go_wp2
  go_loopw [6] (fun vi wr => ∃ (i : Nat) (dk : Array α), vi = .int .i64 i ∧ a < i ∧ i ≤ b + 1 ∧ Aside0 (In E w wr dk) ∧ Aside0 (insOuter E.lt a b i dk = insOuter E.lt a b (a + 1) d)) (fun vi _ => b + 1 - (intOf vi).toNat)
  case atStart => exact ⟨a + 1, d, by go_num, by omega, by omega, I0, ⟨rfl⟩⟩
  case round =>
    clear I0
    obtain ⟨i, dk, rfl, hai, hib, I, HO⟩ := hrel
    go_wp2
    · have hlt : i < b := by assumption
      go_loopw [7] (fun vj wr2 => ∃ (j : Nat) (dj : Array α), vj = .int .i64 j ∧ a ≤ j ∧ j ≤ i ∧ Aside0 (In E w wr2 dj) ∧ Aside0 (insInner E.lt a j dj = insInner E.lt a i dk)) (fun vj _ => (intOf vj).toNat)
      case atStart => exact ⟨i, dk, rfl, by omega, Nat.le_refl _, I, ⟨rfl⟩⟩
      case round =>
        clear I
        obtain ⟨j, dj, rfl, haj, hji, J, HI⟩ := hrel
        have c0 := J.out.c0
        by_cases hja : a < j
        · cases hlv : E.lt dj[j]! dj[j - 1]! with
          | true =>
            have hl := J.out.less hL (i := j) (j := j - 1) (x := (j : Int)) (y := (j : Int) - 1) (by omega) (by omega) rfl (by omega) hlv
            have HL := Aside0.mk hlv
            clear hlv
            go_wp2_with (go_at_fn E.g; refine hl.mono ?_; rintro e w' ⟨rfl, I1⟩; have c1 := I1.c1; obtain ⟨W2, hs, I2⟩ := I1.swap hS (i := j) (j := j - 1) (x := (j : Int)) (y := (j : Int) - 1) (by omega) (by omega) rfl (by omega); replace I2 := Aside0.mk I2; clear I1)
            go_roundw
            case rel =>
              (repeat apply Exists.intro)
              exact ⟨⟨j - 1, swp dj j (j - 1), by congr 1 <;> omega, by omega, by omega, I2, ⟨by rw [← HI.out, insInner_go E.lt a j dj hja HL.out]⟩⟩, by rw [decide_eq_true hlt, show ((j - 1 : Nat) : Int) = (j : Int) - 1 by omega]⟩
            case measure => simp [intOf]; omega
          | false =>
            have hl := J.out.less hL (i := j) (j := j - 1) (x := (j : Int)) (y := (j : Int) - 1) (by omega) (by omega) rfl (by omega) hlv
            have HL := Aside0.mk hlv
            clear hlv
            go_wp2_with (go_at_fn E.g; refine hl.mono ?_; rintro e w' ⟨rfl, I1⟩; replace I1 := Aside0.mk I1)
            go_roundw
            case rel => exact ⟨i + 1, dj, by go_num, by omega, by omega, I1, ⟨by rw [← HO.out, insOuter_go _ _ _ _ _ hlt, ← HI.out, insInner_stop _ _ _ _ (Or.inr HL.out)]⟩⟩
            case measure => simp [intOf]; omega
        · go_wp2
          go_roundw
          case rel => exact ⟨i + 1, dj, by go_num, by omega, by omega, J, ⟨by rw [← HO.out, insOuter_go _ _ _ _ _ hlt, ← HI.out, insInner_stop _ _ _ _ (Or.inl (by omega))]⟩⟩
          case measure => simp [intOf]; omega
    · have hge : ¬ i < b := by assumption
      go_end0
      exact ⟨rfl, by unfold Sort.insertionSort; rw [← HO.out, insOuter_stop _ _ _ _ _ hge]; exact I.out.st, I.out.fr⟩
set_option maxHeartbeats 4000000 in
set_option maxRecDepth 1000000 in
theorem l_siftDown (L : LaysGg.n34 P ρ) (E : SE P α) (hL : E.LessL) (hS : E.SwapL) (lo hi first : Nat) (d : Array α) (w : World) (h0 : St E w d) (hlo : lo ≤ hi) (hb : first + hi ≤ E.size) :
    Calls P (ρ.f 34) #[.agg #[.func (.func E.g) #[] E.lb, .func (.func E.sf) #[] E.sb], .int .i64 lo, .int .i64 hi, .int .i64 first] w fun e w' => e = .returned (.tuple #[]) ∧ St E w' (siftDown E.lt hi first lo d) ∧ w.grownBy w' (some E.blk) := by
  have mixed := L.mixed
  have t0 := L.t0; have a0 := L.a0; have z0 := L.z0; have v0 := L.v0
  have t3 := L.t3; have a3 := L.a3; have z3 := L.z3; have v3 := L.v3
  have t4 := L.t4; have a4 := L.a4; have z4 := L.z4; have v4 := L.v4
  have t26 := L.t26; have a26 := L.a26; have z26 := L.z26; have v26 := L.v26
  have t37 := L.t37; have a37 := L.a37; have z37 := L.z37; have v37 := L.v37
  have t44 := L.t44; have a44 := L.a44; have z44 := L.z44; have v44 := L.v44
  have u44 := run_underlying L.t44
  have eg := E.eg
  have hsz := E.hsz
  have I0 := Aside0.mk (In.start h0 (ρ.t 44))
  clear h0
  go_enter L.f34, BodyGg.n34_ntmps ρ
  go_wp2
  go_loopg [8] (hi - lo) (fun kx s8 wr => ∃ (root : Nat) (dk : Array α), s8 = .int .i64 root ∧ root ≤ hi ∧ hi - root ≤ kx ∧ Aside0 (In E w wr dk) ∧ Aside0 (siftDown E.lt hi first root dk = siftDown E.lt hi first lo d))
  case atStart => exact ⟨lo, d, rfl, hlo, Nat.le_refl _, I0, ⟨rfl⟩⟩
  case round =>
    clear I0
    obtain ⟨root, dk, rfl, hr, hkx, I, HE⟩ := hrel
    have c0 := I.out.c0
    by_cases h0 : hi ≤ 2 * root + 1
    · have h0z : (hi : Int) ≤ 2 * (root : Int) + 1 := by omega
      go_wp2
      go_end0
      exact ⟨rfl, by rw [← HE.out, sd_end E.lt dk h0]; exact I.out.st, I.out.fr⟩
    · have h0z : ¬ ((hi : Int) ≤ 2 * (root : Int) + 1) := by omega
      by_cases h1 : 2 * root + 2 < hi
      · have h1z : 2 * (root : Int) + 1 + 1 < (hi : Int) := by omega
        cases hq : E.lt dk[first + (2 * root + 1)]! dk[first + (2 * root + 2)]! with
        | true =>
          have hl1 := I.out.less hL (i := first + (2 * root + 1)) (j := first + (2 * root + 2)) (x := (first : Int) + (2 * (root : Int) + 1)) (y := (first : Int) + (2 * (root : Int) + 1) + 1) (by omega) (by omega) (by omega) (by omega) hq
          have HQ := Aside0.mk hq
          clear hq
          cases hG : E.lt dk[first + root]! dk[first + (2 * root + 2)]! with
          | true =>
            have HG := Aside0.mk hG
            clear hG
            go_wp2_with (first | (go_at_fn E.g; refine hl1.mono ?_; rintro e w' ⟨rfl, I1⟩; have c1 := I1.c0; have hl2 := I1.less hL (i := first + root) (j := first + (2 * root + 2)) (x := (first : Int) + (root : Int)) (y := (first : Int) + (2 * (root : Int) + 1 + 1)) (by omega) (by omega) (by omega) (by omega) HG.out; clear I1) | (go_at_fn E.g; refine hl2.mono ?_; rintro e w' ⟨rfl, I2⟩; have c2 := I2.c1; obtain ⟨W3, hs, I3⟩ := I2.swap hS (i := first + root) (j := first + (2 * root + 2)) (x := (first : Int) + (root : Int)) (y := (first : Int) + (2 * (root : Int) + 1 + 1)) (by omega) (by omega) (by omega) (by omega); replace I3 := Aside0.mk I3; clear I2))
            go_roundg (hi - (2 * root + 2))
            case measure => omega
            case rel => exact ⟨2 * root + 2, _, by go_num, by omega, Nat.le_refl _, I3, ⟨by rw [← HE.out, sd_right_go E.lt dk h1 HQ.out HG.out]⟩⟩
          | false =>
            have HG := Aside0.mk hG
            clear hG
            go_wp2_with (first | (go_at_fn E.g; refine hl1.mono ?_; rintro e w' ⟨rfl, I1⟩; have c1 := I1.c0; have hl2 := I1.less hL (i := first + root) (j := first + (2 * root + 2)) (x := (first : Int) + (root : Int)) (y := (first : Int) + (2 * (root : Int) + 1 + 1)) (by omega) (by omega) (by omega) (by omega) HG.out; clear I1) | (go_at_fn E.g; refine hl2.mono ?_; rintro e w' ⟨rfl, I2⟩; replace I2 := Aside0.mk I2))
            (try simp only [Exit.inBlock, Exit.then]); refine bodyPost_ret (results_none rfl _ _ _) rfl ?_
            exact ⟨rfl, by rw [← HE.out, sd_right_stop E.lt dk h1 HQ.out HG.out]; exact I2.out.st, I2.out.fr⟩
        | false =>
          have hl1 := I.out.less hL (i := first + (2 * root + 1)) (j := first + (2 * root + 2)) (x := (first : Int) + (2 * (root : Int) + 1)) (y := (first : Int) + (2 * (root : Int) + 1) + 1) (by omega) (by omega) (by omega) (by omega) hq
          have HQ := Aside0.mk hq
          clear hq
          cases hG : E.lt dk[first + root]! dk[first + (2 * root + 1)]! with
          | true =>
            have HG := Aside0.mk hG
            clear hG
            go_wp2_with (first | (go_at_fn E.g; refine hl1.mono ?_; rintro e w' ⟨rfl, I1⟩; have c1 := I1.c0; have hl2 := I1.less hL (i := first + root) (j := first + (2 * root + 1)) (x := (first : Int) + (root : Int)) (y := (first : Int) + (2 * (root : Int) + 1)) (by omega) (by omega) (by omega) (by omega) HG.out; clear I1) | (go_at_fn E.g; refine hl2.mono ?_; rintro e w' ⟨rfl, I2⟩; have c2 := I2.c1; obtain ⟨W3, hs, I3⟩ := I2.swap hS (i := first + root) (j := first + (2 * root + 1)) (x := (first : Int) + (root : Int)) (y := (first : Int) + (2 * (root : Int) + 1)) (by omega) (by omega) (by omega) (by omega); replace I3 := Aside0.mk I3; clear I2))
            go_roundg (hi - (2 * root + 1))
            case measure => omega
            case rel => exact ⟨2 * root + 1, _, by go_num, by omega, Nat.le_refl _, I3, ⟨by rw [← HE.out, sd_left_go E.lt dk (by omega) (fun _ => HQ.out) HG.out]⟩⟩
          | false =>
            have HG := Aside0.mk hG
            clear hG
            go_wp2_with (first | (go_at_fn E.g; refine hl1.mono ?_; rintro e w' ⟨rfl, I1⟩; have c1 := I1.c0; have hl2 := I1.less hL (i := first + root) (j := first + (2 * root + 1)) (x := (first : Int) + (root : Int)) (y := (first : Int) + (2 * (root : Int) + 1)) (by omega) (by omega) (by omega) (by omega) HG.out; clear I1) | (go_at_fn E.g; refine hl2.mono ?_; rintro e w' ⟨rfl, I2⟩; replace I2 := Aside0.mk I2))
            (try simp only [Exit.inBlock, Exit.then]); refine bodyPost_ret (results_none rfl _ _ _) rfl ?_
            exact ⟨rfl, by rw [← HE.out, sd_left_stop E.lt dk (by omega) (fun _ => HQ.out) HG.out]; exact I2.out.st, I2.out.fr⟩
      · have h1z : ¬ (2 * (root : Int) + 1 + 1 < (hi : Int)) := by omega
        cases hG : E.lt dk[first + root]! dk[first + (2 * root + 1)]! with
        | true =>
          have HG := Aside0.mk hG
          clear hG
          have hl2 := I.out.less hL (i := first + root) (j := first + (2 * root + 1)) (x := (first : Int) + (root : Int)) (y := (first : Int) + (2 * (root : Int) + 1)) (by omega) (by omega) (by omega) (by omega) HG.out
          go_wp2_with (first | (go_at_fn E.g; refine hl2.mono ?_; rintro e w' ⟨rfl, I2⟩; have c2 := I2.c1; obtain ⟨W3, hs, I3⟩ := I2.swap hS (i := first + root) (j := first + (2 * root + 1)) (x := (first : Int) + (root : Int)) (y := (first : Int) + (2 * (root : Int) + 1)) (by omega) (by omega) (by omega) (by omega); replace I3 := Aside0.mk I3; clear I2))
          go_roundg (hi - (2 * root + 1))
          case measure => omega
          case rel => exact ⟨2 * root + 1, _, by go_num, by omega, Nat.le_refl _, I3, ⟨by rw [← HE.out, sd_left_go E.lt dk (by omega) (fun h => absurd h h1) HG.out]⟩⟩
        | false =>
          have HG := Aside0.mk hG
          clear hG
          have hl2 := I.out.less hL (i := first + root) (j := first + (2 * root + 1)) (x := (first : Int) + (root : Int)) (y := (first : Int) + (2 * (root : Int) + 1)) (by omega) (by omega) (by omega) (by omega) HG.out
          go_wp2_with (first | (go_at_fn E.g; refine hl2.mono ?_; rintro e w' ⟨rfl, I2⟩; replace I2 := Aside0.mk I2))
          (try simp only [Exit.inBlock, Exit.then]); refine bodyPost_ret (results_none rfl _ _ _) rfl ?_
          exact ⟨rfl, by rw [← HE.out, sd_left_stop E.lt dk (by omega) (fun h => absurd h h1) HG.out]; exact I2.out.st, I2.out.fr⟩

set_option maxHeartbeats 4000000 in
set_option maxRecDepth 1000000 in
theorem l_heapSort (L : LaysGg.n27 P ρ) (E : SE P α) (hL : E.LessL) (hS : E.SwapL) (a b : Nat) (d : Array α) (w : World) (h0 : St E w d) (hab : a ≤ b) (hb : b ≤ E.size) :
    Calls P (ρ.f 27) #[.agg #[.func (.func E.g) #[] E.lb, .func (.func E.sf) #[] E.sb], .int .i64 a, .int .i64 b] w fun e w' => e = .returned (.tuple #[]) ∧ St E w' (heapSort E.lt d a b) ∧ w.grownBy w' (some E.blk) := by
  have mixed := L.mixed
  have t0 := L.t0; have a0 := L.a0; have z0 := L.z0; have v0 := L.v0
  have t3 := L.t3; have a3 := L.a3; have z3 := L.z3; have v3 := L.v3
  have t4 := L.t4; have a4 := L.a4; have z4 := L.z4; have v4 := L.v4
  have t26 := L.t26; have a26 := L.a26; have z26 := L.z26; have v26 := L.v26
  have t37 := L.t37; have a37 := L.a37; have z37 := L.z37; have v37 := L.v37
  have t44 := L.t44; have a44 := L.a44; have z44 := L.z44; have v44 := L.v44
  have u44 := run_underlying L.t44
  have eg := E.eg
  have hsz := E.hsz
  have e34 : ∀ args w, (callFunc (ρ.f 34) args).run P w = .ok (.enter (ρ.f 34) args) w := enters_of L.f34 (by kernel_rfl) rfl
  have ecast : ((b - a : Nat) : Int) = (b : Int) - (a : Int) := by omega
  have I0 := Aside0.mk (In.start h0 (ρ.t 44))
  clear h0
  go_enter L.f27, BodyGg.n27_ntmps ρ
  go_wp2
  go_loopg [9] ((b - a - 1) / 2 + 1) (fun kx s9 wr => s9 = .int .i64 ((kx : Int) - 1) ∧ kx ≤ (b - a - 1) / 2 + 1 ∧ ∃ (dk : Array α), Aside0 (In E w wr dk) ∧ Aside0 (heapBuild E.lt (b - a) a kx dk = heapBuild E.lt (b - a) a ((b - a - 1) / 2 + 1) d))
  case atStart => exact ⟨by rw [half_start hab], Nat.le_refl _, d, I0, ⟨rfl⟩⟩
  case round =>
    clear I0
    obtain ⟨rfl, hkk, dk, I, HE⟩ := hrel
    have c0 := I.out.c0
    have c1 := I.out.c1
    cases gk with
    | zero =>
      clear hkk c0 c1
      go_wp2
      go_loopg [10] (b - a) (fun kx s10 wr2 => s10 = .int .i64 ((kx : Int) - 1) ∧ kx ≤ b - a ∧ ∃ (dj : Array α), Aside0 (In E w wr2 dj) ∧ Aside0 (heapPop E.lt a kx dj = heapPop E.lt a (b - a) dk))
      case atStart => exact ⟨by rw [ecast], Nat.le_refl _, dk, I, ⟨rfl⟩⟩
      case round =>
        clear I
        obtain ⟨rfl, hkk, dj, I, HE2⟩ := hrel
        cases gk with
        | zero =>
          go_wp2
          go_end0
          have e : dj = heapSort E.lt d a b := by rw [heapSort, ← HE.out]; exact HE2.out
          rw [← e]
          exact ⟨rfl, I.out.st, I.out.fr⟩
        | succ kx =>
          obtain ⟨W2, hs, I2⟩ := I.out.swap hS (i := a) (j := a + kx) (x := (a : Int)) (y := (a : Int) + (kx : Int)) (by omega) (by omega) rfl (by omega)
          have c1 := I.out.c1
          have c2 := I2.c0
          have c3 := I2.c1
          have hcall := l_siftDown (P := P) (ρ := ρ) { L with } E hL hS 0 kx a _ W2 I2.st (Nat.zero_le _) (by omega)
          replace I2 := Aside0.mk I2
          clear I
          go_wp2_with (go_at_fn (ρ.f 34); refine hcall.mono ?_; rintro e w1 ⟨rfl, S3, g3⟩; replace S3 := Aside0.mk (I2.out.step S3 g3); clear g3)
          go_roundg kx
          case measure => omega
          case rel => exact ⟨by simp, by omega, _, S3, ⟨HE2.out⟩⟩
    | succ kx =>
      have hcall := l_siftDown (P := P) (ρ := ρ) { L with } E hL hS kx (b - a) a dk wr I.out.st (by omega) (by omega)
      rw [ecast] at hcall
      go_wp2_with (go_at_fn (ρ.f 34); refine hcall.mono ?_; rintro e w1 ⟨rfl, S3, g3⟩; replace S3 := Aside0.mk (I.out.step S3 g3); clear g3)
      go_roundg kx
      case measure => omega
      case rel => exact ⟨by simp, by omega, _, S3, ⟨HE.out⟩⟩
#print axioms l_heapSort
end Go.Proofs.Ytbbkimgadohdkaa.X
