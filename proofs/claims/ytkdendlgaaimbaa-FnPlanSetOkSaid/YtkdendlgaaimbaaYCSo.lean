/- Conditions: none. -/
import Derived.Shelf.SlSortFuncK.WholeK
import Derived.Shelf.GgSortFunc.Tiny
import Derived.Test.YtkdendlgaaimbaaProg
import Derived.Test.YtkdendlgaaimbaaYCBs
import Derived.Sort.LotA
import Derived.Sort.OwnSorted
import Derived.Deep.QuietTactic
import Derived.BigQuiet
import Derived.Shelf.SlSortFuncK.ComposeK
import Derived.Shelf.GgSortFunc.SmallK
import Derived.Shelf.GgSortFunc.LotD
import Derived.Sort.WalkB3
import Derived.Below
namespace Go.Proofs.Ytkdendlgaaimbaa.X
open Go.Shelf
def sa6_ren : Go.Shelf.Ren := ⟨fun | 6 => 133 | 10 => 168 | 11 => 169 | 12 => 170 | 13 => 171 | 14 => 172 | 24 => 197 | 25 => 198 | 26 => 199 | 27 => 200 | 28 => 201 | 29 => 202 | 30 => 203 | 31 => 204 | 32 => 205 | 33 => 206 | 34 => 208 | 35 => 209 | 36 => 210 | 37 => 211 | 38 => 212 | 39 => 213 | n => n, fun | 20 => 20 | 26 => 150 | 35 => 169 | 0 => 0 | 37 => 171 | 3 => 3 | 41 => 174 | 44 => 177 | 49 => 191 | 51 => 193 | 4 => 4 | 54 => 196 | 53 => 195 | 58 => 200 | 5 => 5 | 9 => 9 | 60 => 202 | 64 => 206 | 66 => 208 | 67 => 209 | 17 => 17 | 32 => 166 | 33 => 167 | 82 => 224 | 12 => 12 | 75 => 217 | 76 => 218 | 77 => 219 | 78 => 220 | 79 => 221 | 80 => 222 | n => n, fun | n => n⟩
theorem sa6 : Go.Proofs.LaysGg.n6 Try.prog sa6_ren := {
 mixed := by kernel_rfl
 f6 := Try.func133.trans (congrArg some (by kernel_rfl))
 f10 := Try.func168.trans (congrArg some (by kernel_rfl))
 f11 := Try.func169.trans (congrArg some (by kernel_rfl))
 f12 := Try.func170.trans (congrArg some (by kernel_rfl))
 f13 := Try.func171.trans (congrArg some (by kernel_rfl))
 f14 := Try.func172.trans (congrArg some (by kernel_rfl))
 f24 := Try.func197.trans (congrArg some (by kernel_rfl))
 f25 := Try.func198.trans (congrArg some (by kernel_rfl))
 f26 := Try.func199.trans (congrArg some (by kernel_rfl))
 f27 := Try.func200.trans (congrArg some (by kernel_rfl))
 f28 := Try.func201.trans (congrArg some (by kernel_rfl))
 f29 := Try.func202.trans (congrArg some (by kernel_rfl))
 f30 := Try.func203.trans (congrArg some (by kernel_rfl))
 f31 := Try.func204.trans (congrArg some (by kernel_rfl))
 f32 := Try.func205.trans (congrArg some (by kernel_rfl))
 f33 := Try.func206.trans (congrArg some (by kernel_rfl))
 f34 := Try.func208.trans (congrArg some (by kernel_rfl))
 f35 := Try.func209.trans (congrArg some (by kernel_rfl))
 f36 := Try.func210.trans (congrArg some (by kernel_rfl))
 f37 := Try.func211.trans (congrArg some (by kernel_rfl))
 f38 := Try.func212.trans (congrArg some (by kernel_rfl))
 f39 := Try.func213.trans (congrArg some (by kernel_rfl))
 t0 := Try.underlying0
 a0 := Try.isAgg0
 z0 := Try.sizeOf0
 v0 := Try.zeroValue0
 i0 := by kernel_rfl
 t3 := Try.underlying3
 a3 := Try.isAgg3
 z3 := Try.sizeOf3
 v3 := Try.zeroValue3
 i3 := by kernel_rfl
 t4 := Try.underlying4
 a4 := Try.isAgg4
 z4 := Try.sizeOf4
 v4 := Try.zeroValue4
 i4 := by kernel_rfl
 t5 := Try.underlying5
 a5 := Try.isAgg5
 z5 := Try.sizeOf5
 v5 := Try.zeroValue5
 i5 := by kernel_rfl
 t9 := Try.underlying9
 a9 := Try.isAgg9
 z9 := Try.sizeOf9
 v9 := Try.zeroValue9
 i9 := by kernel_rfl
 t12 := Try.underlying12
 a12 := Try.isAgg12
 z12 := Try.sizeOf12
 v12 := Try.zeroValue12
 i12 := by kernel_rfl
 t17 := Try.underlying17
 a17 := Try.isAgg17
 z17 := Try.sizeOf17
 v17 := Try.zeroValue17
 i17 := by kernel_rfl
 t20 := Try.underlying20
 a20 := Try.isAgg20
 z20 := Try.sizeOf20
 v20 := Try.zeroValue20
 i20 := by kernel_rfl
 t26 := Try.underlying150
 a26 := Try.isAgg150
 z26 := Try.sizeOf150
 v26 := Try.zeroValue150
 i26 := by kernel_rfl
 t32 := Try.underlying166
 a32 := Try.isAgg166
 z32 := Try.sizeOf166
 v32 := Try.zeroValue166
 i32 := by kernel_rfl
 t33 := Try.underlying167
 a33 := Try.isAgg167
 z33 := Try.sizeOf167
 v33 := Try.zeroValue167
 i33 := by kernel_rfl
 t35 := Try.underlying169
 a35 := Try.isAgg169
 z35 := Try.sizeOf169
 v35 := Try.zeroValue169
 i35 := by kernel_rfl
 t37 := Try.underlying171
 a37 := Try.isAgg171
 z37 := Try.sizeOf171
 v37 := Try.zeroValue171
 i37 := by kernel_rfl
 t41 := Try.underlying174
 a41 := Try.isAgg174
 z41 := Try.sizeOf174
 v41 := Try.zeroValue174
 i41 := by kernel_rfl
 t44 := Try.underlying177
 a44 := Try.isAgg177
 z44 := Try.sizeOf177
 v44 := Try.zeroValue177
 i44 := by kernel_rfl
 t49 := Try.underlying191
 a49 := Try.isAgg191
 z49 := Try.sizeOf191
 v49 := Try.zeroValue191
 i49 := by kernel_rfl
 t51 := Try.underlying193
 a51 := Try.isAgg193
 z51 := Try.sizeOf193
 v51 := Try.zeroValue193
 i51 := by kernel_rfl
 t53 := Try.underlying195
 a53 := Try.isAgg195
 z53 := Try.sizeOf195
 v53 := Try.zeroValue195
 i53 := by kernel_rfl
 t54 := Try.underlying196
 a54 := Try.isAgg196
 z54 := Try.sizeOf196
 v54 := Try.zeroValue196
 i54 := by kernel_rfl
 t58 := Try.underlying200
 a58 := Try.isAgg200
 z58 := Try.sizeOf200
 v58 := Try.zeroValue200
 i58 := by kernel_rfl
 t60 := Try.underlying202
 a60 := Try.isAgg202
 z60 := Try.sizeOf202
 v60 := Try.zeroValue202
 i60 := by kernel_rfl
 t64 := Try.underlying206
 a64 := Try.isAgg206
 z64 := Try.sizeOf206
 v64 := Try.zeroValue206
 i64 := by kernel_rfl
 t66 := Try.underlying208
 a66 := Try.isAgg208
 z66 := Try.sizeOf208
 v66 := Try.zeroValue208
 i66 := by kernel_rfl
 t67 := Try.underlying209
 a67 := Try.isAgg209
 z67 := Try.sizeOf209
 v67 := Try.zeroValue209
 i67 := by kernel_rfl
 t75 := Try.underlying217
 a75 := Try.isAgg217
 z75 := Try.sizeOf217
 v75 := Try.zeroValue217
 i75 := by kernel_rfl
 t76 := Try.underlying218
 a76 := Try.isAgg218
 z76 := Try.sizeOf218
 v76 := Try.zeroValue218
 i76 := by kernel_rfl
 t77 := Try.underlying219
 a77 := Try.isAgg219
 z77 := Try.sizeOf219
 v77 := Try.zeroValue219
 i77 := by kernel_rfl
 t78 := Try.underlying220
 a78 := Try.isAgg220
 z78 := Try.sizeOf220
 v78 := Try.zeroValue220
 i78 := by kernel_rfl
 t79 := Try.underlying221
 a79 := Try.isAgg221
 z79 := Try.sizeOf221
 v79 := Try.zeroValue221
 i79 := by kernel_rfl
 t80 := Try.underlying222
 a80 := Try.isAgg222
 z80 := Try.sizeOf222
 v80 := Try.zeroValue222
 i80 := by kernel_rfl
 t82 := Try.underlying224
 a82 := Try.isAgg224
 z82 := Try.sizeOf224
 v82 := Try.zeroValue224
 i82 := by kernel_rfl }
end Go.Proofs.Ytkdendlgaaimbaa.X
namespace Go.Proofs.Ytkdendlgaaimbaa.X
open Go.RowKit Go.Shelf Go.Lib Go.Sort Go.Proofs.YtkdendlgaaimbaaW.PrintWords
set_option linter.unusedVariables false
set_option linter.unusedSimpArgs false
section
variable {α : Type} {d : Kd α} {e : Nat} {w : World} {base g cap : Nat} {ok : Nat → Prop}
theorem own_of_cells (enc : α → List Value) (hk : ∀ x, (enc x).length = d.sz) (hs0 : 0 < d.sz) (hM : ∀ w b ok x, d.M w b ok x (enc x)) {cur : Array Value} {xs : List α} (hb : w.heap[g]? = some (.cells cur e (0, 0))) (hsz : cur.size = cap * d.sz)
  (hl : xs.length ≤ cap) (hm : cap ≤ maxLen) (hbase : base ≤ g) (hok : ok g) (hc : ∀ j x, xs[j]? = some x → ∀ c u, (enc x)[c]? = some u → w.cell? ⟨g, j * d.sz + c, none⟩ = some u) :
  d.R e w base ok (.slice (some ⟨g, 0, none⟩) xs.length cap) xs := by
 have hle : xs.length * d.sz ≤ cap * d.sz := Nat.mul_le_mul_right _ hl
 refine ⟨fun k hk => ?_, cur.toList.take (xs.length * d.sz), ⟨by simp; omega, .inr ⟨g, cap, cur, rfl, hbase, hb, hl, hm, hsz, rfl⟩⟩, by simp; omega, fun j x hj => ?_⟩
 ·have : g = k := by simpa [Value.ownBlock] using hk
  rw [← this]; exact hok
 ·have hjl : j < xs.length := (List.getElem?_eq_some_iff.1 hj).1
  have hjm : (j + 1) * d.sz ≤ xs.length * d.sz := Nat.mul_le_mul_right _ (by omega)
  rw [Nat.add_mul, Nat.one_mul] at hjm
  have : ((cur.toList.take (xs.length * d.sz)).drop (j * d.sz)).take d.sz = enc x := by
   apply List.ext_getElem?
   intro i
   by_cases hi : i < d.sz
   ·rw [List.getElem?_take_of_lt hi, List.getElem?_drop, List.getElem?_take_of_lt (by omega)]
    obtain ⟨u, hu⟩ : ∃ u, (enc x)[i]? = some u := ⟨_, List.getElem?_eq_getElem (by rw [hk]; exact hi)⟩
    have := hc j x hj i u hu
    rw [cell_of_row w g _ cur e (0, 0) hb] at this
    rw [hu, ← this, Array.getElem?_toList]
   ·rw [List.getElem?_eq_none (by simp; omega), List.getElem?_eq_none (by rw [hk]; omega)]
  rw [this]
  exact hM _ _ _ _
theorem holds_of_own [Inhabited α] (enc : α → List Value) (hk : ∀ x, (enc x).length = d.sz) (hs0 : 0 < d.sz) (hM : ∀ {w b ok x cs}, d.M w b ok x cs → cs = enc x) {n : Nat} {xs : List α} (h : d.R e w base ok (.slice (some ⟨g, 0, none⟩) n cap) xs) :
  n = xs.length ∧ HoldsK enc d.sz w g 0 xs.toArray ∧ ∃ cur, w.heap[g]? = some (.cells cur e (0, 0)) ∧ cur.size = cap * d.sz ∧ xs.length ≤ cap ∧ cap ≤ maxLen ∧ base ≤ g ∧ ok g := by
 obtain ⟨hok, inner, hown, hr⟩ := h
 rcases hown.2 with ⟨hv, _⟩ | ⟨g', cap', cur, hv, hbg, hg, hnc, hcm, hcs, htk⟩
 ·cases hv
 ·cases hv
  refine ⟨rfl, fun t ht => ?_, cur, hg, hcs, hnc, hcm, hbg, hok g rfl⟩
  have hlen := hr.1
  rw [size_flatK] at ht
  simp only [List.size_toArray] at ht
  have hq : t / d.sz < xs.length := Nat.div_lt_of_lt_mul (by rw [Nat.mul_comm]; exact ht)
  have hmod := Nat.mod_lt t hs0
  have hrep := hM (hr.2 (t / d.sz) _ (List.getElem?_eq_getElem hq))
  refine ⟨?_, by simp [World.frozen?, hg]⟩
  have h1 : inner[t]? = (enc xs[t / d.sz])[t % d.sz]? := by
   rw [← hrep, List.getElem?_take_of_lt hmod, List.getElem?_drop, Nat.div_add_mod' t d.sz]
  have h2 : cur[t]? = inner[t]? := by rw [← htk, List.getElem?_take_of_lt ht, Array.getElem?_toList]
  rw [Nat.zero_add, cell_of_row w g t cur e (0, 0) hg, h2, h1, get_flatK enc d.sz _ t (by simpa using ht)]
  have h3 : xs.toArray[t / d.sz]! = xs[t / d.sz] := by simp [hq]
  rw [h3]
  have h4 : t % d.sz < (enc xs[t / d.sz]).length := by rw [hk]; exact hmod
  rw [List.getElem?_eq_getElem h4]
  simp [h4]
theorem heap_sortedK [Inhabited α] (enc : α → List Value) (k : Nat) {cur : Array Value} (dk : Array α) (n : Nat) (os : Array Obj) (hb : w.heap[g]? = some (.cells cur e (0, 0))) : ∃ cur', (grow (putRowK enc k (Sort.ahead w n) g 0 dk) os).heap[g]? = some (.cells cur' e (0, 0)) ∧ cur'.size = cur.size := by
 have hlt := (Array.getElem?_eq_some_iff.1 hb).1
 refine ⟨putCells id 0 (flatK enc k dk) cur, ?_, by simp [putCells]⟩
 rw [heap_grow_old _ _ (by simpa [putRowK, putRow, mapBlock, Sort.ahead] using hlt)]
 simp [putRowK, putRow, mapBlock, Sort.ahead, Array.getElem?_modify, hb, onCells]
theorem grownBy_sortedK [Inhabited α] (enc : α → List Value) (k : Nat) (dk : Array α) (n : Nat) (os : Array Obj) : w.grownBy (grow (putRowK enc k (Sort.ahead w n) g 0 dk) os) (some g) := by
 refine ⟨rfl, rfl, rfl, by simp [size_putRowK], fun j hj hne => ?_⟩
 rw [heap_grow_old _ _ (by rw [size_putRowK]; simpa [Sort.ahead] using hj)]
 have : g ≠ j := fun h => hne (by rw [h])
 simp [putRowK, putRow, mapBlock, Sort.ahead, Array.getElem?_modify, this]
end
end Go.Proofs.Ytkdendlgaaimbaa.X
namespace Go.Proofs.Ytkdendlgaaimbaa.X
open Go.RowKit Go.Shelf Go.Lib Go.Sort Go.Proofs.YtkdendlgaaimbaaW.PrintWords
set_option linter.unusedVariables false
set_option linter.unusedSimpArgs false
def ltIt (x y : It) : Bool := decide (x.f0 < y.f0) || (decide (x.f0 = y.f0) && decide (x.f1 < y.f1))
theorem swo_ltIt : SWO ltIt := ⟨fun x => by simp [ltIt], fun x y z h1 h2 => by simp [ltIt] at h1 h2 ⊢; omega, fun x y z h1 h2 => by simp [ltIt] at h1 h2 ⊢; omega⟩
set_option maxRecDepth 100000 in
set_option maxHeartbeats 2000000 in
theorem lessIt (blk c Bs size : Nat) (W : World) (G : Nat → It) (hs : W.cell? ⟨Bs, 0, none⟩ = some (.slice (some ⟨blk, 0, none⟩) size c))
  (hc : ∀ t, t < size → W.cell? ⟨blk, t * 3, none⟩ = some (.int .i64 (G t).f0) ∧ W.cell? ⟨blk, t * 3 + 1, none⟩ = some (.int .i64 (G t).f1)) (i j : Nat) (hi : i < size) (hj : j < size) (hsz : size < 4611686018427387904) :
  Calls Try.prog 175 #[.int .i64 i, .int .i64 j, .pointer (some ⟨Bs, 0, none⟩)] W fun e w' => e = .returned (.bool (ltIt (G i) (G j))) ∧ ∃ q, w' = W.drewN q := by
 obtain ⟨ci0, ci1⟩ := hc i hi
 obtain ⟨cj0, cj1⟩ := hc j hj
 clear hc
 generalize G i = x at *
 generalize G j = y at *
 have gi : (i : Int) < (size : Int) := by omega
 have gj : (j : Int) < (size : Int) := by omega
 rcases x with ⟨x0, x1, x2⟩
 rcases y with ⟨y0, y1, y2⟩
 simp only at ci0 ci1 cj0 cj1
 by_cases h1 : x0 < y0
 ·have hd := decide_eq_true h1
  have hv : ltIt ⟨x0, x1, x2⟩ ⟨y0, y1, y2⟩ = true := by simp [ltIt, h1]
  rw [hv]
  clear hv h1
  go_enter Try.func175, Try.ntmps175
  go_wp2
  go_quiet (fail)
  go_wp2
  go_ret
  exact ⟨rfl, nq, rfl⟩
 ·have hd := decide_eq_false h1
  by_cases h2 : x0 = y0
  ·subst h2
   have hv : ltIt ⟨x0, x1, x2⟩ ⟨x0, y1, y2⟩ = decide (x1 < y1) := by simp [ltIt]
   rw [hv]
   clear hv h1
   go_enter Try.func175, Try.ntmps175
   go_wp2
   go_quiet (fail)
   go_wp2
   go_ret
   exact ⟨rfl, nq, rfl⟩
  ·have hd2 : (x0 == y0) = false := beq_eq_false_iff_ne.2 h2
   have hd3 := decide_eq_false h2
   have hv : ltIt ⟨x0, x1, x2⟩ ⟨y0, y1, y2⟩ = false := by simp [ltIt, h1, h2]
   rw [hv]
   clear hv h1
   go_enter Try.func175, Try.ntmps175
   go_wp2
   go_quiet (fail)
   go_wp2
   go_ret
   exact ⟨rfl, nq, rfl⟩
theorem pw_short {α : Type} {R : α → α → Prop} {l : List α} (h : l.length ≤ 1) : l.Pairwise R := by
 match l, h with
 | [], _ => exact List.Pairwise.nil
 | [x], _ => exact List.pairwise_singleton _ _
theorem svTIt : ∃ i, Try.prog.info? 46 = some i ∧ i.desc = .slice 118 := ⟨(Try.prog.info? 46).get (by kernel_rfl), by kernel_rfl, by kernel_rfl⟩
theorem svEIt : ∃ i, Try.prog.info? 118 = some i ∧ i.size = 3 ∧ i.hasPointers = false ∧ i.bytes = 24 := ⟨(Try.prog.info? 118).get (by kernel_rfl), by kernel_rfl, by kernel_rfl, by kernel_rfl, by kernel_rfl⟩
set_option maxRecDepth 100000 in
set_option maxHeartbeats 2000000 in
theorem sortIt (A : Option Addr) (c Bs base e : Nat) (ok : Nat → Prop) (xs : List It) (w : World) (hR : kIt.R e w base ok (.slice A xs.length c) xs) (hBs : w.cell? ⟨Bs, 0, none⟩ = some (.slice A xs.length c)) (hB1 : Bs < w.heap.size) (hB2 : ∀ a, A = some a → Bs ≠ a.block) (hsz : xs.length < 4611686018427387904) :
  Calls Try.prog 133 #[.iface 46 (.slice A xs.length c), .func (.func 175) #[] #[.pointer (some ⟨Bs, 0, none⟩)]] w fun en w' =>
   en = .returned (.tuple #[]) ∧ ∃ ys : List It, ys.Perm xs ∧ ys.Pairwise (fun a b => ltIt b a = false) ∧ kIt.R e w' base ok (.slice A xs.length c) ys ∧ w.grownBy w' (Value.slice A xs.length c).ownBlock := by
 obtain ⟨iT, hT1, hT2⟩ := svTIt
 obtain ⟨iE, hE1, hE2, hE3, hE4⟩ := svEIt
 by_cases h2 : 2 ≤ xs.length
 ·obtain ⟨g, cap, hv, _⟩ := Kd.R_form hR (by omega)
  cases hv
  obtain ⟨_, hH, cur, hb, hcs, hlc, hcm, hbg, hokg⟩ := holds_of_own vIt (fun _ => rfl) (by decide) (fun h => kIt_M.1 h) hR
  have hblk : g < w.heap.size := (Array.getElem?_eq_some_iff.1 hb).1
  have hne : Bs ≠ g := hB2 _ rfl
  have hless : LessReadsK Try.prog 175 #[.pointer (some ⟨Bs, 0, none⟩)] vIt 3 ltIt g 0 xs.toArray.size w := by
   intro m os dk hs i j hi hj
   have e1 : sortWorldK vIt 3 w g 0 m dk os = putRowK vIt 3 (grow (Sort.ahead w m) os) g 0 dk := by
    unfold sortWorldK; rw [putRowK_grow _ _ (Sort.ahead w m) _ g 0 _ hblk]
   have hHg : HoldsK vIt 3 (grow (Sort.ahead w m) os) g 0 xs.toArray := holdsK_grow _ _ _ _ g 0 _ hblk (holdsK_ahead _ _ _ _ _ _ _ hH)
   have hHd := holdsK_putRowK _ _ _ g 0 _ dk hHg hs
   refine lessIt g c Bs xs.toArray.size _ (fun t => dk[t]!) ?_ (fun t ht => ?_) i j hi hj (by simpa using hsz)
   ·rw [e1, cell?_putRowK_other _ _ _ g 0 dk _ (by exact hne), cell?_grow _ _ _ (by exact hB1)]
    simpa using hBs
   ·rw [e1]
    have c0 := (hHd.cell (i := t) (c := 0) (by omega) (by omega)).1
    have c1 := (hHd.cell (i := t) (c := 1) (by omega) (by omega)).1
    rw [Nat.zero_add] at c0 c1
    exact ⟨c0, c1⟩
  have hK : Lib.swapperK xs.toArray.size iE 25 = 9 := by
   have c1 : (xs.toArray.size == 0) = false := by simp; intro h; rw [h] at h2; simp at h2
   have c2 : (xs.toArray.size == 1) = false := by simp; omega
   unfold Lib.swapperK
   rw [c1, c2, hE3, hE4]
   rfl
  have hS := Any.sort_Slice_cells_sorted sa6 46 118 iT iE hT1 hT2 (by kernel_rfl) hE1 25 (fun _ => by kernel_rfl) vIt 3 (fun _ => rfl) hE2 (fun _ => by kernel_rfl)
   (fun x v hv => by simp [vIt] at hv; rcases hv with rfl | rfl | rfl <;> rfl) ltIt swo_ltIt 175 _
   (enters_of Try.func175 (by kernel_rfl) rfl) g 0 c xs.toArray (by simpa using h2) (by simpa using hsz) 196 (by rw [hK]; kernel_rfl) false
   (fun args W => run_callFunc_extern Try.func196 (by kernel_rfl) (by kernel_rfl) (by kernel_rfl) (e := Extern.ReflectliteSwapper.swap false) (by kernel_rfl) args W) w hless hH hblk
  have hS' := hS
  rw [show xs.toArray.size = xs.length from rfl] at hS'
  refine hS'.mono ?_
  rintro en w' ⟨rfl, d', n, os, hp, hso, rfl⟩
  obtain ⟨hd1, _, hd3⟩ := hp
  have hd4 : d'.size = xs.length := hd1
  have e0 : d'.extract 0 xs.length = d' := by rw [← hd4]; exact Array.extract_size
  have e2 : xs.toArray.extract 0 xs.length = xs.toArray := by
   simp
  rw [e0, e2] at hd3
  have hperm : d'.toList.Perm xs := by simpa using hd3
  obtain ⟨cur', hb', hcs'⟩ := heap_sortedK vIt 3 d' n os hb
  refine ⟨rfl, d'.toList, hperm, ?_, ?_, grownBy_sortedK vIt 3 d' n os⟩
  ·rw [List.pairwise_iff_getElem]
   intro i j hi hj hij
   have := hso i j (Nat.zero_le _) hij (by rw [← hd4]; simpa using hj)
   simpa [show i < d'.size by simpa using hi, show j < d'.size by simpa using hj] using this
  ·have hlen : d'.toList.length = xs.length := by simpa using hd4
   have hHd : HoldsK vIt 3 (grow (putRowK vIt 3 (Sort.ahead w n) g 0 d') os) g 0 d' := holdsK_grow _ _ _ _ g 0 _ (by rw [size_putRowK]; simpa [Sort.ahead] using hblk) (holdsK_putRowK _ _ _ g 0 _ d' (holdsK_ahead _ _ _ _ _ _ _ hH) hd1)
   have := own_of_cells (d := kIt) (e := e) (base := base) (ok := ok) (xs := d'.toList) vIt (fun _ => rfl) (by decide) (fun _ _ _ x => kIt_M.2 rfl) hb' (by rw [hcs', hcs]) (by rw [hlen]; exact hlc) hcm hbg hokg (fun j x hj cc u hu => by
    have hjl : j < d'.size := by have := (List.getElem?_eq_some_iff.1 hj).1; simpa using this
    have hcl : cc < 3 := by have := (List.getElem?_eq_some_iff.1 hu).1; simpa [vIt] using this
    have h3 := (hHd.cell (i := j) (c := cc) hjl hcl).1
    rw [Nat.zero_add] at h3
    have hx : d'[j]! = x := by
     have h5 : d'[j]? = some x := by rw [← Array.getElem?_toList]; exact hj
     have h6 : d'[j]? = some d'[j] := Array.getElem?_eq_getElem hjl
     rw [h5] at h6
     rw [getElem!_pos d' j hjl]
     exact (Option.some.inj h6).symm
    rw [hx] at h3
    rw [show kIt.sz = 3 from rfl, h3, ← hu]
    have hcl' : cc < (vIt x).length := by simpa [vIt] using hcl
    rw [List.getElem?_eq_getElem hcl', getElem!_pos (vIt x) cc hcl'])
   rw [hlen] at this
   exact this
 ·have hlen : xs.length ≤ 1 := by omega
  have hS : Calls Try.prog (sa6_ren.f 6) #[.iface 46 (.slice A xs.length c), .func (.func 175) #[] #[.pointer (some ⟨Bs, 0, none⟩)]] w fun e w' => e = .returned (.tuple #[]) ∧ ∃ os, w' = grow w os := by
   by_cases h0 : xs.length = 0
   ·rw [h0]
    exact Any.sort_Slice_tiny sa6 46 118 iT iE hT1 hT2 (by kernel_rfl) hE1 25 (fun _ => by kernel_rfl) A 0 c (by omega) 188 (by rw [show Lib.swapperK 0 iE 25 = 1 from rfl]; kernel_rfl) (.func 175) #[] #[.pointer (some ⟨Bs, 0, none⟩)] w
   ·rw [show xs.length = 1 by omega]
    exact Any.sort_Slice_tiny sa6 46 118 iT iE hT1 hT2 (by kernel_rfl) hE1 25 (fun _ => by kernel_rfl) A 1 c (by omega) 189 (by rw [show Lib.swapperK 1 iE 25 = 2 from rfl]; kernel_rfl) (.func 175) #[] #[.pointer (some ⟨Bs, 0, none⟩)] w
  refine hS.mono ?_
  rintro en w' ⟨rfl, os, rfl⟩
  have hbl : Below w.heap.size w (grow w os) := ⟨rfl, rfl, rfl, by rw [size_grow]; omega, fun k hk => heap_grow_old _ _ hk⟩
  have hgr : w.grownBy (grow w os) (Value.slice A xs.length c).ownBlock := ⟨hbl.os, hbl.tape, hbl.output, hbl.size, fun k hk _ => heap_grow_old _ _ hk⟩
  have hR2 : kIt.R e (grow w os) base ok (Value.slice A xs.length c) xs := Kd.R_below hR hbl
  clear hR hBs
  refine ⟨rfl, xs, List.Perm.refl _, ?_, hR2, hgr⟩
  exact pw_short hlen
end Go.Proofs.Ytkdendlgaaimbaa.X
namespace Go.Proofs.Ytkdendlgaaimbaa.X
open Go.Shelf Go.RowKit Go.Lib Go.Sort Go.Proofs.YtkdendlgaaimbaaW.PrintWords
set_option linter.unusedVariables false
set_option linter.unusedSimpArgs false
variable {P : Program} {ρ : Ren} {α : Type} [Inhabited α]
structure SE (P : Program) (α : Type) where
 enc : α → List Value
 k : Nat
 hk : ∀ x, (enc x).length = k
 lt : α → α → Bool
 g : Nat
 lb : Array Value
 sf : Nat
 sb : Array Value
 blk : Nat
 ty : Nat
 cs : Nat
 size : Nat
 w0 : World
 eg : ∀ args w, (callFunc g args).run P w = .ok (.enter g args) w
 hsz : size < 4611686018427387904
 hb : blk < w0.heap.size
structure St (E : SE P α) (W : World) (d : Array α) : Prop where
 sz : d.size = E.size
 gr : E.w0.grownBy W (some E.blk)
 ho : HoldsK E.enc E.k W E.blk 0 d
 sh : ∃ cur, W.heap[E.blk]? = some (.cells cur E.ty (0, 0)) ∧ cur.size = E.cs
def SE.LessL (E : SE P α) : Prop := ∀ (W : World) (d : Array α), St E W d → ∀ i j : Nat, i < E.size → j < E.size →
 Calls P E.g (#[.int .i64 i, .int .i64 j] ++ E.lb) W fun e w' => e = .returned (.bool (E.lt d[i]! d[j]!)) ∧ Go.RowKit.Below W.heap.size W w'
def SE.SwapL (E : SE P α) : Prop := SwapSwapsK P E.sf E.sb E.enc E.k E.blk 0 E.size
theorem grownBy_of_below {w w' : World} {r : Option Nat} (h : Go.RowKit.Below w.heap.size w w') : w.grownBy w' r := ⟨h.os, h.tape, h.output, h.size, fun k hk _ => h.block k hk⟩
theorem grownBy_refl (w : World) (r : Option Nat) : w.grownBy w r := ⟨rfl, rfl, rfl, Nat.le_refl _, fun _ _ _ => rfl⟩
theorem grownBy_then {w w1 w2 : World} {r : Option Nat} (h : w.grownBy w1 r) (k : w1.grownBy w2 r) : w.grownBy w2 r :=
 ⟨k.os.trans h.os, k.tape.trans h.tape, k.output.trans h.output, Nat.le_trans h.size k.size, fun j hj hn => (k.block j (Nat.lt_of_lt_of_le hj h.size) hn).trans (h.block j hj hn)⟩
theorem grownBy_cell {w w' : World} {r : Nat} (h : w.grownBy w' (some r)) {b o : Nat} {v : Value} (hb : b < w.heap.size) (hn : b ≠ r) (hc : w.cell? ⟨b, o, none⟩ = some v) : w'.cell? ⟨b, o, none⟩ = some v := by
 rw [World.cell?_of_block (h.block b hb (fun e => hn (Option.some.inj e))), hc]
theorem holdsK_block {enc : α → List Value} {k : Nat} {W W' : World} {blk : Nat} {d : Array α} (h : HoldsK enc k W blk 0 d) (e : W'.heap[blk]? = W.heap[blk]?) : HoldsK enc k W' blk 0 d := fun j hj =>
 ⟨(World.cell?_of_block (a := ⟨blk, 0 + j, none⟩) e).trans (h j hj).1, (World.frozen?_of_block (a := ⟨blk, 0 + j, none⟩) e).trans (h j hj).2⟩
section
variable {E : SE P α} {w W W' : World} {d d' : Array α}
theorem St.lt (h : St E W d) : E.blk < W.heap.size := by obtain ⟨cur, h1, _⟩ := h.sh; exact (Array.getElem?_eq_some_iff.1 h1).1
theorem St.keep (h : St E W d) {r : Option Nat} (hg : W.grownBy W' r) (hr : ∀ k, r = some k → E.w0.heap.size ≤ k) : St E W' d := by
 have hb := h.lt
 have he : W'.heap[E.blk]? = W.heap[E.blk]? := hg.block _ hb (fun e => by have := hr _ e.symm; have := E.hb; omega)
 refine ⟨h.sz, ?_, holdsK_block h.ho he, by rw [he]; exact h.sh⟩
 exact ⟨hg.os.trans h.gr.os, hg.tape.trans h.gr.tape, hg.output.trans h.gr.output, Nat.le_trans h.gr.size hg.size, fun j hj hn => (hg.block j (Nat.lt_of_lt_of_le hj h.gr.size) (fun e => by have := hr _ e.symm; omega)).trans (h.gr.block j hj hn)⟩
theorem St.below (h : St E W d) (hb : Go.RowKit.Below W.heap.size W W') : St E W' d := h.keep (r := none) (grownBy_of_below hb) (fun k e => by cases e)
theorem St.start (hH : HoldsK E.enc E.k E.w0 E.blk 0 d) (hs : d.size = E.size) (h : ∃ cur, E.w0.heap[E.blk]? = some (.cells cur E.ty (0, 0)) ∧ cur.size = E.cs) : St E E.w0 d := ⟨hs, grownBy_refl _ _, hH, h⟩
theorem St.put (h : St E W d) (hs : d'.size = d.size) : St E (putRowK E.enc E.k W E.blk 0 d') d' ∧ W.grownBy (putRowK E.enc E.k W E.blk 0 d') (some E.blk) := by
 have hg : W.grownBy (putRowK E.enc E.k W E.blk 0 d') (some E.blk) := by
  refine ⟨rfl, rfl, rfl, by rw [size_putRowK]; exact Nat.le_refl _, fun j _ hne => ?_⟩
  have : E.blk ≠ j := fun e => hne (by rw [e])
  simp [putRowK, putRow, mapBlock, Array.getElem?_modify, this]
 refine ⟨⟨hs.trans h.sz, grownBy_then h.gr hg, holdsK_putRowK E.enc E.k W E.blk 0 d d' h.ho hs, ?_⟩, hg⟩
 obtain ⟨cur, h1, h2⟩ := h.sh
 refine ⟨putCells id 0 (flatK E.enc E.k d') cur, ?_, by simp [putCells, h2]⟩
 simp [putRowK, putRow, mapBlock, Array.getElem?_modify, h1, onCells]
theorem St.swap (h : St E W d) (hS : E.SwapL) {i j : Nat} (hi : i < E.size) (hj : j < E.size) {x y : Int} (hx : x = i) (hy : y = j) :
  ∃ W', (callFunc E.sf (#[.int .i64 x, .int .i64 y] ++ E.sb)).run P W = .ok (.value (.tuple #[])) W' ∧ St E W' (swp d i j) ∧ W.grownBy W' (some E.blk) := by
 subst hx; subst hy
 have hr := hS W d h.ho h.sz i j hi hj
 rw [← putRowK_self E.enc E.k W E.blk 0 d h.ho, putRowK_swp E.enc E.k E.hk W E.blk 0 d i j (by rw [h.sz]; exact hi) (by rw [h.sz]; exact hj), putRowK_self E.enc E.k W E.blk 0 d h.ho] at hr
 obtain ⟨h1, h2⟩ := h.put (d' := swp d i j) (size_swp _ _ _)
 exact ⟨_, hr, h1, h2⟩
structure In (E : SE P α) (w W : World) (d : Array α) : Prop where
 st : St E W d
 c0 : W.cell? ⟨w.heap.size, 0, none⟩ = some (.func (.func E.g) #[] E.lb)
 c1 : W.cell? ⟨w.heap.size, 1, none⟩ = some (.func (.func E.sf) #[] E.sb)
 fr : w.grownBy W (some E.blk)
 lt : w.heap.size < W.heap.size
 ne : E.blk < w.heap.size
theorem below_alloc1 (w : World) (o : Obj) : Go.RowKit.Below w.heap.size w (w.alloc o) := (Go.RowKit.Below.refl _ _).alloc (Nat.le_refl _) _
theorem In.start (h : St E w d) (t : TypeId) : In E w (w.alloc (.cells #[.func (.func E.g) #[] E.lb, .func (.func E.sf) #[] E.sb] t)) d :=
 ⟨h.below (below_alloc1 w _), by simp, by simp, grownBy_of_below (below_alloc1 w _), by simp, h.lt⟩
theorem In.step (h : In E w W d) (s : St E W' d') (g : W.grownBy W' (some E.blk)) : In E w W' d' :=
 ⟨s, grownBy_cell g h.lt (by have := h.ne; omega) h.c0, grownBy_cell g h.lt (by have := h.ne; omega) h.c1, grownBy_then h.fr g, Nat.lt_of_lt_of_le h.lt g.size, h.ne⟩
theorem In.less (h : In E w W d) (hL : E.LessL) {i j : Nat} (hi : i < E.size) (hj : j < E.size) {x y : Int} (hx : x = i) (hy : y = j) {v : Bool} (hv : E.lt d[i]! d[j]! = v) :
  Calls P E.g (#[.int .i64 x, .int .i64 y] ++ E.lb) W fun e w' => e = .returned (.bool v) ∧ In E w w' d := by
 subst hx; subst hy; subst hv
 exact (hL W d h.st i j hi hj).mono fun e w' ⟨he, hb⟩ => ⟨he, h.step (h.st.below hb) (grownBy_of_below hb)⟩
theorem In.swap (h : In E w W d) (hS : E.SwapL) {i j : Nat} (hi : i < E.size) (hj : j < E.size) {x y : Int} (hx : x = i) (hy : y = j) :
  ∃ W', (callFunc E.sf (#[.int .i64 x, .int .i64 y] ++ E.sb)).run P W = .ok (.value (.tuple #[])) W' ∧ In E w W' (swp d i j) := by
 obtain ⟨W', h1, h2, h3⟩ := h.st.swap hS hi hj hx hy
 exact ⟨W', h1, h.step h2 h3⟩
end
set_option maxHeartbeats 2000000 in
set_option maxRecDepth 100000 in
theorem l_insertionSort (L : LaysGg.n26 P ρ) (E : SE P α) (hL : E.LessL) (hS : E.SwapL) (a b : Nat) (d : Array α) (w : World) (h0 : St E w d) (hab : a ≤ b) (hb : b ≤ E.size) :
  Calls P (ρ.f 26) #[.agg #[.func (.func E.g) #[] E.lb, .func (.func E.sf) #[] E.sb], .int .i64 a, .int .i64 b] w fun e w' => e = .returned (.tuple #[]) ∧ St E w' (Sort.insertionSort E.lt d a b) ∧ w.grownBy w' (some E.blk) := by
 have mixed := L.mixed
 have t0 := L.t0; have a0 := L.a0; have z0 := L.z0; have v0 := L.v0
 have t3 := L.t3; have a3 := L.a3; have z3 := L.z3; have v3 := L.v3
 have t4 := L.t4; have a4 := L.a4; have z4 := L.z4; have v4 := L.v4
 have t26 := L.t26; have a26 := L.a26; have z26 := L.z26; have v26 := L.v26
 have t37 := L.t37; have a37 := L.a37; have z37 := L.z37; have v37 := L.v37
 have t44 := L.t44; have a44 := L.a44; have z44 := L.z44; have v44 := L.v44
 have u44 := run_underlying L.t44
 have eg := E.eg
 have hsz := E.hsz
 have I0 := Aside0.mk (In.start h0 (ρ.t 44))
 clear h0
 go_enter L.f26, BodyGg.n26_ntmps ρ
 go_wp2
 go_loopw [6] (fun vi wr => ∃ (i : Nat) (dk : Array α), vi = .int .i64 i ∧ a < i ∧ i ≤ b + 1 ∧ Aside0 (In E w wr dk) ∧ Aside0 (insOuter E.lt a b i dk = insOuter E.lt a b (a + 1) d)) (fun vi _ => b + 1 - (intOf vi).toNat)
 case atStart => exact ⟨a + 1, d, by go_num, by omega, by omega, I0, ⟨rfl⟩⟩
 case round =>
  clear I0
  obtain ⟨i, dk, rfl, hai, hib, I, HO⟩ := hrel
  go_wp2
  ·have hlt : i < b := by assumption
   go_loopw [7] (fun vj wr2 => ∃ (j : Nat) (dj : Array α), vj = .int .i64 j ∧ a ≤ j ∧ j ≤ i ∧ Aside0 (In E w wr2 dj) ∧ Aside0 (insInner E.lt a j dj = insInner E.lt a i dk)) (fun vj _ => (intOf vj).toNat)
   case atStart => exact ⟨i, dk, rfl, by omega, Nat.le_refl _, I, ⟨rfl⟩⟩
   case round =>
    clear I
    obtain ⟨j, dj, rfl, haj, hji, J, HI⟩ := hrel
    have c0 := J.out.c0
    by_cases hja : a < j
    ·cases hlv : E.lt dj[j]! dj[j - 1]! with
     | true =>
      have hl := J.out.less hL (i := j) (j := j - 1) (x := (j : Int)) (y := (j : Int) - 1) (by omega) (by omega) rfl (by omega) hlv
      have HL := Aside0.mk hlv
      clear hlv
      go_wp2_with (go_at_fn E.g; refine hl.mono ?_; rintro e w' ⟨rfl, I1⟩; have c1 := I1.c1; obtain ⟨W2, hs, I2⟩ := I1.swap hS (i := j) (j := j - 1) (x := (j : Int)) (y := (j : Int) - 1) (by omega) (by omega) rfl (by omega); replace I2 := Aside0.mk I2; clear I1)
      go_roundw
      case rel =>
       (repeat apply Exists.intro)
       exact ⟨⟨j - 1, swp dj j (j - 1), by congr 1 <;> omega, by omega, by omega, I2, ⟨by rw [← HI.out, insInner_go E.lt a j dj hja HL.out]⟩⟩, by rw [decide_eq_true hlt, show ((j - 1 : Nat) : Int) = (j : Int) - 1 by omega]⟩
      case measure => simp [intOf]; omega
     | false =>
      have hl := J.out.less hL (i := j) (j := j - 1) (x := (j : Int)) (y := (j : Int) - 1) (by omega) (by omega) rfl (by omega) hlv
      have HL := Aside0.mk hlv
      clear hlv
      go_wp2_with (go_at_fn E.g; refine hl.mono ?_; rintro e w' ⟨rfl, I1⟩; replace I1 := Aside0.mk I1)
      go_roundw
      case rel => exact ⟨i + 1, dj, by go_num, by omega, by omega, I1, ⟨by rw [← HO.out, insOuter_go _ _ _ _ _ hlt, ← HI.out, insInner_stop _ _ _ _ (Or.inr HL.out)]⟩⟩
      case measure => simp [intOf]; omega
    ·go_wp2
     go_roundw
     case rel => exact ⟨i + 1, dj, by go_num, by omega, by omega, J, ⟨by rw [← HO.out, insOuter_go _ _ _ _ _ hlt, ← HI.out, insInner_stop _ _ _ _ (Or.inl (by omega))]⟩⟩
     case measure => simp [intOf]; omega
  ·have hge : ¬ i < b := by assumption
   go_end0
   exact ⟨rfl, by unfold Sort.insertionSort; rw [← HO.out, insOuter_stop _ _ _ _ _ hge]; exact I.out.st, I.out.fr⟩
set_option maxHeartbeats 4000000 in
set_option maxRecDepth 1000000 in
theorem l_siftDown (L : LaysGg.n34 P ρ) (E : SE P α) (hL : E.LessL) (hS : E.SwapL) (lo hi first : Nat) (d : Array α) (w : World) (h0 : St E w d) (hlo : lo ≤ hi) (hb : first + hi ≤ E.size) :
  Calls P (ρ.f 34) #[.agg #[.func (.func E.g) #[] E.lb, .func (.func E.sf) #[] E.sb], .int .i64 lo, .int .i64 hi, .int .i64 first] w fun e w' => e = .returned (.tuple #[]) ∧ St E w' (siftDown E.lt hi first lo d) ∧ w.grownBy w' (some E.blk) := by
 have mixed := L.mixed
 have t0 := L.t0; have a0 := L.a0; have z0 := L.z0; have v0 := L.v0
 have t3 := L.t3; have a3 := L.a3; have z3 := L.z3; have v3 := L.v3
 have t4 := L.t4; have a4 := L.a4; have z4 := L.z4; have v4 := L.v4
 have t26 := L.t26; have a26 := L.a26; have z26 := L.z26; have v26 := L.v26
 have t37 := L.t37; have a37 := L.a37; have z37 := L.z37; have v37 := L.v37
 have t44 := L.t44; have a44 := L.a44; have z44 := L.z44; have v44 := L.v44
 have u44 := run_underlying L.t44
 have eg := E.eg
 have hsz := E.hsz
 have I0 := Aside0.mk (In.start h0 (ρ.t 44))
 clear h0
 go_enter L.f34, BodyGg.n34_ntmps ρ
 go_wp2
 go_loopg [8] (hi - lo) (fun kx s8 wr => ∃ (root : Nat) (dk : Array α), s8 = .int .i64 root ∧ root ≤ hi ∧ hi - root ≤ kx ∧ Aside0 (In E w wr dk) ∧ Aside0 (siftDown E.lt hi first root dk = siftDown E.lt hi first lo d))
 case atStart => exact ⟨lo, d, rfl, hlo, Nat.le_refl _, I0, ⟨rfl⟩⟩
 case round =>
  clear I0
  obtain ⟨root, dk, rfl, hr, hkx, I, HE⟩ := hrel
  have c0 := I.out.c0
  by_cases h0 : hi ≤ 2 * root + 1
  ·have h0z : (hi : Int) ≤ 2 * (root : Int) + 1 := by omega
   go_wp2
   go_end0
   exact ⟨rfl, by rw [← HE.out, sd_end E.lt dk h0]; exact I.out.st, I.out.fr⟩
  ·have h0z : ¬ ((hi : Int) ≤ 2 * (root : Int) + 1) := by omega
   by_cases h1 : 2 * root + 2 < hi
   ·have h1z : 2 * (root : Int) + 1 + 1 < (hi : Int) := by omega
    cases hq : E.lt dk[first + (2 * root + 1)]! dk[first + (2 * root + 2)]! with
    | true =>
     have hl1 := I.out.less hL (i := first + (2 * root + 1)) (j := first + (2 * root + 2)) (x := (first : Int) + (2 * (root : Int) + 1)) (y := (first : Int) + (2 * (root : Int) + 1) + 1) (by omega) (by omega) (by omega) (by omega) hq
     have HQ := Aside0.mk hq
     clear hq
     cases hG : E.lt dk[first + root]! dk[first + (2 * root + 2)]! with
     | true =>
      have HG := Aside0.mk hG
      clear hG
      go_wp2_with (first | (go_at_fn E.g; refine hl1.mono ?_; rintro e w' ⟨rfl, I1⟩; have c1 := I1.c0; have hl2 := I1.less hL (i := first + root) (j := first + (2 * root + 2)) (x := (first : Int) + (root : Int)) (y := (first : Int) + (2 * (root : Int) + 1 + 1)) (by omega) (by omega) (by omega) (by omega) HG.out; clear I1) | (go_at_fn E.g; refine hl2.mono ?_; rintro e w' ⟨rfl, I2⟩; have c2 := I2.c1; obtain ⟨W3, hs, I3⟩ := I2.swap hS (i := first + root) (j := first + (2 * root + 2)) (x := (first : Int) + (root : Int)) (y := (first : Int) + (2 * (root : Int) + 1 + 1)) (by omega) (by omega) (by omega) (by omega); replace I3 := Aside0.mk I3; clear I2))
      go_roundg (hi - (2 * root + 2))
      case measure => omega
      case rel => exact ⟨2 * root + 2, _, by go_num, by omega, Nat.le_refl _, I3, ⟨by rw [← HE.out, sd_right_go E.lt dk h1 HQ.out HG.out]⟩⟩
     | false =>
      have HG := Aside0.mk hG
      clear hG
      go_wp2_with (first | (go_at_fn E.g; refine hl1.mono ?_; rintro e w' ⟨rfl, I1⟩; have c1 := I1.c0; have hl2 := I1.less hL (i := first + root) (j := first + (2 * root + 2)) (x := (first : Int) + (root : Int)) (y := (first : Int) + (2 * (root : Int) + 1 + 1)) (by omega) (by omega) (by omega) (by omega) HG.out; clear I1) | (go_at_fn E.g; refine hl2.mono ?_; rintro e w' ⟨rfl, I2⟩; replace I2 := Aside0.mk I2))
      (try simp only [Exit.inBlock, Exit.then]); refine bodyPost_ret (results_none rfl _ _ _) rfl ?_
      exact ⟨rfl, by rw [← HE.out, sd_right_stop E.lt dk h1 HQ.out HG.out]; exact I2.out.st, I2.out.fr⟩
    | false =>
     have hl1 := I.out.less hL (i := first + (2 * root + 1)) (j := first + (2 * root + 2)) (x := (first : Int) + (2 * (root : Int) + 1)) (y := (first : Int) + (2 * (root : Int) + 1) + 1) (by omega) (by omega) (by omega) (by omega) hq
     have HQ := Aside0.mk hq
     clear hq
     cases hG : E.lt dk[first + root]! dk[first + (2 * root + 1)]! with
     | true =>
      have HG := Aside0.mk hG
      clear hG
      go_wp2_with (first | (go_at_fn E.g; refine hl1.mono ?_; rintro e w' ⟨rfl, I1⟩; have c1 := I1.c0; have hl2 := I1.less hL (i := first + root) (j := first + (2 * root + 1)) (x := (first : Int) + (root : Int)) (y := (first : Int) + (2 * (root : Int) + 1)) (by omega) (by omega) (by omega) (by omega) HG.out; clear I1) | (go_at_fn E.g; refine hl2.mono ?_; rintro e w' ⟨rfl, I2⟩; have c2 := I2.c1; obtain ⟨W3, hs, I3⟩ := I2.swap hS (i := first + root) (j := first + (2 * root + 1)) (x := (first : Int) + (root : Int)) (y := (first : Int) + (2 * (root : Int) + 1)) (by omega) (by omega) (by omega) (by omega); replace I3 := Aside0.mk I3; clear I2))
      go_roundg (hi - (2 * root + 1))
      case measure => omega
      case rel => exact ⟨2 * root + 1, _, by go_num, by omega, Nat.le_refl _, I3, ⟨by rw [← HE.out, sd_left_go E.lt dk (by omega) (fun _ => HQ.out) HG.out]⟩⟩
     | false =>
      have HG := Aside0.mk hG
      clear hG
      go_wp2_with (first | (go_at_fn E.g; refine hl1.mono ?_; rintro e w' ⟨rfl, I1⟩; have c1 := I1.c0; have hl2 := I1.less hL (i := first + root) (j := first + (2 * root + 1)) (x := (first : Int) + (root : Int)) (y := (first : Int) + (2 * (root : Int) + 1)) (by omega) (by omega) (by omega) (by omega) HG.out; clear I1) | (go_at_fn E.g; refine hl2.mono ?_; rintro e w' ⟨rfl, I2⟩; replace I2 := Aside0.mk I2))
      (try simp only [Exit.inBlock, Exit.then]); refine bodyPost_ret (results_none rfl _ _ _) rfl ?_
      exact ⟨rfl, by rw [← HE.out, sd_left_stop E.lt dk (by omega) (fun _ => HQ.out) HG.out]; exact I2.out.st, I2.out.fr⟩
   ·have h1z : ¬ (2 * (root : Int) + 1 + 1 < (hi : Int)) := by omega
    cases hG : E.lt dk[first + root]! dk[first + (2 * root + 1)]! with
    | true =>
     have HG := Aside0.mk hG
     clear hG
     have hl2 := I.out.less hL (i := first + root) (j := first + (2 * root + 1)) (x := (first : Int) + (root : Int)) (y := (first : Int) + (2 * (root : Int) + 1)) (by omega) (by omega) (by omega) (by omega) HG.out
     go_wp2_with (first | (go_at_fn E.g; refine hl2.mono ?_; rintro e w' ⟨rfl, I2⟩; have c2 := I2.c1; obtain ⟨W3, hs, I3⟩ := I2.swap hS (i := first + root) (j := first + (2 * root + 1)) (x := (first : Int) + (root : Int)) (y := (first : Int) + (2 * (root : Int) + 1)) (by omega) (by omega) (by omega) (by omega); replace I3 := Aside0.mk I3; clear I2))
     go_roundg (hi - (2 * root + 1))
     case measure => omega
     case rel => exact ⟨2 * root + 1, _, by go_num, by omega, Nat.le_refl _, I3, ⟨by rw [← HE.out, sd_left_go E.lt dk (by omega) (fun h => absurd h h1) HG.out]⟩⟩
    | false =>
     have HG := Aside0.mk hG
     clear hG
     have hl2 := I.out.less hL (i := first + root) (j := first + (2 * root + 1)) (x := (first : Int) + (root : Int)) (y := (first : Int) + (2 * (root : Int) + 1)) (by omega) (by omega) (by omega) (by omega) HG.out
     go_wp2_with (first | (go_at_fn E.g; refine hl2.mono ?_; rintro e w' ⟨rfl, I2⟩; replace I2 := Aside0.mk I2))
     (try simp only [Exit.inBlock, Exit.then]); refine bodyPost_ret (results_none rfl _ _ _) rfl ?_
     exact ⟨rfl, by rw [← HE.out, sd_left_stop E.lt dk (by omega) (fun h => absurd h h1) HG.out]; exact I2.out.st, I2.out.fr⟩
set_option maxHeartbeats 4000000 in
set_option maxRecDepth 1000000 in
theorem l_heapSort (L : LaysGg.n27 P ρ) (E : SE P α) (hL : E.LessL) (hS : E.SwapL) (a b : Nat) (d : Array α) (w : World) (h0 : St E w d) (hab : a ≤ b) (hb : b ≤ E.size) :
  Calls P (ρ.f 27) #[.agg #[.func (.func E.g) #[] E.lb, .func (.func E.sf) #[] E.sb], .int .i64 a, .int .i64 b] w fun e w' => e = .returned (.tuple #[]) ∧ St E w' (heapSort E.lt d a b) ∧ w.grownBy w' (some E.blk) := by
 have mixed := L.mixed
 have t0 := L.t0; have a0 := L.a0; have z0 := L.z0; have v0 := L.v0
 have t3 := L.t3; have a3 := L.a3; have z3 := L.z3; have v3 := L.v3
 have t4 := L.t4; have a4 := L.a4; have z4 := L.z4; have v4 := L.v4
 have t26 := L.t26; have a26 := L.a26; have z26 := L.z26; have v26 := L.v26
 have t37 := L.t37; have a37 := L.a37; have z37 := L.z37; have v37 := L.v37
 have t44 := L.t44; have a44 := L.a44; have z44 := L.z44; have v44 := L.v44
 have u44 := run_underlying L.t44
 have eg := E.eg
 have hsz := E.hsz
 have e34 : ∀ args w, (callFunc (ρ.f 34) args).run P w = .ok (.enter (ρ.f 34) args) w := enters_of L.f34 (by kernel_rfl) rfl
 have ecast : ((b - a : Nat) : Int) = (b : Int) - (a : Int) := by omega
 have I0 := Aside0.mk (In.start h0 (ρ.t 44))
 clear h0
 go_enter L.f27, BodyGg.n27_ntmps ρ
 go_wp2
 go_loopg [9] ((b - a - 1) / 2 + 1) (fun kx s9 wr => s9 = .int .i64 ((kx : Int) - 1) ∧ kx ≤ (b - a - 1) / 2 + 1 ∧ ∃ (dk : Array α), Aside0 (In E w wr dk) ∧ Aside0 (heapBuild E.lt (b - a) a kx dk = heapBuild E.lt (b - a) a ((b - a - 1) / 2 + 1) d))
 case atStart => exact ⟨by rw [half_start hab], Nat.le_refl _, d, I0, ⟨rfl⟩⟩
 case round =>
  clear I0
  obtain ⟨rfl, hkk, dk, I, HE⟩ := hrel
  have c0 := I.out.c0
  have c1 := I.out.c1
  cases gk with
  | zero =>
   clear hkk c0 c1
   go_wp2
   go_loopg [10] (b - a) (fun kx s10 wr2 => s10 = .int .i64 ((kx : Int) - 1) ∧ kx ≤ b - a ∧ ∃ (dj : Array α), Aside0 (In E w wr2 dj) ∧ Aside0 (heapPop E.lt a kx dj = heapPop E.lt a (b - a) dk))
   case atStart => exact ⟨by rw [ecast], Nat.le_refl _, dk, I, ⟨rfl⟩⟩
   case round =>
    clear I
    obtain ⟨rfl, hkk, dj, I, HE2⟩ := hrel
    cases gk with
    | zero =>
     go_wp2
     go_end0
     have e : dj = heapSort E.lt d a b := by rw [heapSort, ← HE.out]; exact HE2.out
     rw [← e]
     exact ⟨rfl, I.out.st, I.out.fr⟩
    | succ kx =>
     obtain ⟨W2, hs, I2⟩ := I.out.swap hS (i := a) (j := a + kx) (x := (a : Int)) (y := (a : Int) + (kx : Int)) (by omega) (by omega) rfl (by omega)
     have c1 := I.out.c1
     have c2 := I2.c0
     have c3 := I2.c1
     have hcall := l_siftDown (P := P) (ρ := ρ) { L with } E hL hS 0 kx a _ W2 I2.st (Nat.zero_le _) (by omega)
     replace I2 := Aside0.mk I2
     clear I
     go_wp2_with (go_at_fn (ρ.f 34); refine hcall.mono ?_; rintro e w1 ⟨rfl, S3, g3⟩; replace S3 := Aside0.mk (I2.out.step S3 g3); clear g3)
     go_roundg kx
     case measure => omega
     case rel => exact ⟨by simp, by omega, _, S3, ⟨HE2.out⟩⟩
  | succ kx =>
   have hcall := l_siftDown (P := P) (ρ := ρ) { L with } E hL hS kx (b - a) a dk wr I.out.st (by omega) (by omega)
   rw [ecast] at hcall
   go_wp2_with (go_at_fn (ρ.f 34); refine hcall.mono ?_; rintro e w1 ⟨rfl, S3, g3⟩; replace S3 := Aside0.mk (I.out.step S3 g3); clear g3)
   go_roundg kx
   case measure => omega
   case rel => exact ⟨by simp, by omega, _, S3, ⟨HE.out⟩⟩
end Go.Proofs.Ytkdendlgaaimbaa.X
