/- sort.Slice as impl.gathered calls it: the items come to stand in order; nothing else turns. Conditions: fewer than 2^62 items. -/
import Derived.Test.YtbbkimgadohdkaaXSortRow
import Derived.Deep.QuietTactic
import Derived.BigQuiet
namespace Go.Proofs.Ytbbkimgadohdkaa.X
open Go.RowKit Go.Shelf Go.Lib Go.Sort Go.Proofs.YtbbkimgadohdkaaW.PrintWords
set_option linter.unusedVariables false
set_option linter.unusedSimpArgs false

def ltIt (x y : It) : Bool := decide (x.f0 < y.f0) || (decide (x.f0 = y.f0) && decide (x.f1 < y.f1))
theorem swo_ltIt : SWO ltIt := ⟨fun x => by simp [ltIt], fun x y z h1 h2 => by simp [ltIt] at h1 h2 ⊢; omega, fun x y z h1 h2 => by simp [ltIt] at h1 h2 ⊢; omega⟩
set_option maxRecDepth 100000 in
set_option maxHeartbeats 2000000 in
/-- the closure's own walk -/
theorem lessIt (blk c Bs size : Nat) (W : World) (G : Nat → It) (hs : W.cell? ⟨Bs, 0, none⟩ = some (.slice (some ⟨blk, 0, none⟩) size c))
    (hc : ∀ t, t < size → W.cell? ⟨blk, t * 3, none⟩ = some (.int .i64 (G t).f0) ∧ W.cell? ⟨blk, t * 3 + 1, none⟩ = some (.int .i64 (G t).f1)) (i j : Nat) (hi : i < size) (hj : j < size) (hsz : size < 4611686018427387904) :
    Calls Try.prog 88 #[.int .i64 i, .int .i64 j, .pointer (some ⟨Bs, 0, none⟩)] W fun e w' => e = .returned (.bool (ltIt (G i) (G j))) ∧ ∃ q, w' = W.drewN q := by
  obtain ⟨ci0, ci1⟩ := hc i hi
  obtain ⟨cj0, cj1⟩ := hc j hj
  clear hc
  generalize G i = x at *
  generalize G j = y at *
  have gi : (i : Int) < (size : Int) := by omega
  have gj : (j : Int) < (size : Int) := by omega
  rcases x with ⟨x0, x1, x2⟩
  rcases y with ⟨y0, y1, y2⟩
  simp only at ci0 ci1 cj0 cj1
  by_cases h1 : x0 < y0
  · have hd := decide_eq_true h1
    have hv : ltIt ⟨x0, x1, x2⟩ ⟨y0, y1, y2⟩ = true := by simp [ltIt, h1]
    rw [hv]
    clear hv h1
    go_enter Try.func88, Try.ntmps88
    go_wp2
    go_quiet (fail)
    go_wp2
    go_ret
    exact ⟨rfl, nq, rfl⟩
  · have hd := decide_eq_false h1
    by_cases h2 : x0 = y0
    · subst h2
      have hv : ltIt ⟨x0, x1, x2⟩ ⟨x0, y1, y2⟩ = decide (x1 < y1) := by simp [ltIt]
      rw [hv]
      clear hv h1
      go_enter Try.func88, Try.ntmps88
      go_wp2
      go_quiet (fail)
      go_wp2
      go_ret
      exact ⟨rfl, nq, rfl⟩
    · have hd2 : (x0 == y0) = false := beq_eq_false_iff_ne.2 h2
      have hd3 := decide_eq_false h2
      have hv : ltIt ⟨x0, x1, x2⟩ ⟨y0, y1, y2⟩ = false := by simp [ltIt, h1, h2]
      rw [hv]
      clear hv h1
      go_enter Try.func88, Try.ntmps88
      go_wp2
      go_quiet (fail)
      go_wp2
      go_ret
      exact ⟨rfl, nq, rfl⟩
theorem pw_short {α : Type} {R : α → α → Prop} {l : List α} (h : l.length ≤ 1) : l.Pairwise R := by
  match l, h with
  | [], _ => exact List.Pairwise.nil
  | [x], _ => exact List.pairwise_singleton _ _
/-- what the kit asks of the slice's type and of its elements' -/
theorem svTIt : ∃ i, Try.prog.info? 23 = some i ∧ i.desc = .slice 44 := ⟨(Try.prog.info? 23).get (by kernel_rfl), by kernel_rfl, by kernel_rfl⟩
theorem svEIt : ∃ i, Try.prog.info? 44 = some i ∧ i.size = 3 ∧ i.hasPointers = false ∧ i.bytes = 24 := ⟨(Try.prog.info? 44).get (by kernel_rfl), by kernel_rfl, by kernel_rfl, by kernel_rfl, by kernel_rfl⟩
set_option maxRecDepth 100000 in
set_option maxHeartbeats 2000000 in
theorem sortIt (A : Option Addr) (c Bs base e : Nat) (ok : Nat → Prop) (xs : List It) (w : World) (hR : kIt.R e w base ok (.slice A xs.length c) xs) (hBs : w.cell? ⟨Bs, 0, none⟩ = some (.slice A xs.length c)) (hB1 : Bs < w.heap.size) (hB2 : ∀ a, A = some a → Bs ≠ a.block) (hsz : xs.length < 4611686018427387904) :
    Calls Try.prog 87 #[.iface 23 (.slice A xs.length c), .func (.func 88) #[] #[.pointer (some ⟨Bs, 0, none⟩)]] w fun en w' =>
      en = .returned (.tuple #[]) ∧ ∃ ys : List It, ys.Perm xs ∧ ys.Pairwise (fun a b => ltIt b a = false) ∧ kIt.R e w' base ok (.slice A xs.length c) ys ∧ w.grownBy w' (Value.slice A xs.length c).ownBlock := by
  obtain ⟨iT, hT1, hT2⟩ := svTIt
  obtain ⟨iE, hE1, hE2, hE3, hE4⟩ := svEIt
  by_cases h2 : 2 ≤ xs.length
  · obtain ⟨g, cap, hv, _⟩ := Kd.R_form hR (by omega)
    cases hv
    obtain ⟨_, hH, cur, hb, hcs, hlc, hcm, hbg, hokg⟩ := holds_of_own vIt (fun _ => rfl) (by decide) (fun h => kIt_M.1 h) hR
    have hblk : g < w.heap.size := (Array.getElem?_eq_some_iff.1 hb).1
    have hne : Bs ≠ g := hB2 _ rfl
    have hless : LessReadsK Try.prog 88 #[.pointer (some ⟨Bs, 0, none⟩)] vIt 3 ltIt g 0 xs.toArray.size w := by
      intro m os dk hs i j hi hj
      have e1 : sortWorldK vIt 3 w g 0 m dk os = putRowK vIt 3 (grow (Sort.ahead w m) os) g 0 dk := by
        unfold sortWorldK; rw [putRowK_grow _ _ (Sort.ahead w m) _ g 0 _ hblk]
      have hHg : HoldsK vIt 3 (grow (Sort.ahead w m) os) g 0 xs.toArray := holdsK_grow _ _ _ _ g 0 _ hblk (holdsK_ahead _ _ _ _ _ _ _ hH)
      have hHd := holdsK_putRowK _ _ _ g 0 _ dk hHg hs
      refine lessIt g c Bs xs.toArray.size _ (fun t => dk[t]!) ?_ (fun t ht => ?_) i j hi hj (by simpa using hsz)
      · rw [e1, cell?_putRowK_other _ _ _ g 0 dk _ (by exact hne), cell?_grow _ _ _ (by exact hB1)]
        simpa using hBs
      · rw [e1]
        have c0 := (hHd.cell (i := t) (c := 0) (by omega) (by omega)).1
        have c1 := (hHd.cell (i := t) (c := 1) (by omega) (by omega)).1
        rw [Nat.zero_add] at c0 c1
        exact ⟨c0, c1⟩
    have hK : Lib.swapperK xs.toArray.size iE 25 = 9 := by
      have c1 : (xs.toArray.size == 0) = false := by simp; intro h; rw [h] at h2; simp at h2
      have c2 : (xs.toArray.size == 1) = false := by simp; omega
      unfold Lib.swapperK
      rw [c1, c2, hE3, hE4]
      rfl
    have hS := Any.sort_Slice_cells_sorted sa6 23 44 iT iE hT1 hT2 (by kernel_rfl) hE1 25 (fun _ => by kernel_rfl) vIt 3 (fun _ => rfl) hE2 (fun _ => by kernel_rfl)
      (fun x v hv => by simp [vIt] at hv; rcases hv with rfl | rfl | rfl <;> rfl) ltIt swo_ltIt 88 _
      (enters_of Try.func88 (by kernel_rfl) rfl) g 0 c xs.toArray (by simpa using h2) (by simpa using hsz) 120 (by rw [hK]; kernel_rfl) false
      (fun args W => run_callFunc_extern Try.func120 (by kernel_rfl) (by kernel_rfl) (by kernel_rfl) (e := Extern.ReflectliteSwapper.swap false) (by kernel_rfl) args W) w hless hH hblk
    have hS' := hS
    rw [show xs.toArray.size = xs.length from rfl] at hS'
    refine hS'.mono ?_
    rintro en w' ⟨rfl, d', n, os, hp, hso, rfl⟩
    obtain ⟨hd1, _, hd3⟩ := hp
    have hd4 : d'.size = xs.length := hd1
    have e0 : d'.extract 0 xs.length = d' := by rw [← hd4]; exact Array.extract_size
    have e2 : xs.toArray.extract 0 xs.length = xs.toArray := by
      simp
    rw [e0, e2] at hd3
    have hperm : d'.toList.Perm xs := by simpa using hd3
    obtain ⟨cur', hb', hcs'⟩ := heap_sortedK vIt 3 d' n os hb
    refine ⟨rfl, d'.toList, hperm, ?_, ?_, grownBy_sortedK vIt 3 d' n os⟩
    · rw [List.pairwise_iff_getElem]
      intro i j hi hj hij
      have := hso i j (Nat.zero_le _) hij (by rw [← hd4]; simpa using hj)
      simpa [show i < d'.size by simpa using hi, show j < d'.size by simpa using hj] using this
    · have hlen : d'.toList.length = xs.length := by simpa using hd4
      have hHd : HoldsK vIt 3 (grow (putRowK vIt 3 (Sort.ahead w n) g 0 d') os) g 0 d' := holdsK_grow _ _ _ _ g 0 _ (by rw [size_putRowK]; simpa [Sort.ahead] using hblk) (holdsK_putRowK _ _ _ g 0 _ d' (holdsK_ahead _ _ _ _ _ _ _ hH) hd1)
      have := own_of_cells (d := kIt) (e := e) (base := base) (ok := ok) (xs := d'.toList) vIt (fun _ => rfl) (by decide) (fun _ _ _ x => kIt_M.2 rfl) hb' (by rw [hcs', hcs]) (by rw [hlen]; exact hlc) hcm hbg hokg (fun j x hj cc u hu => by
        have hjl : j < d'.size := by have := (List.getElem?_eq_some_iff.1 hj).1; simpa using this
        have hcl : cc < 3 := by have := (List.getElem?_eq_some_iff.1 hu).1; simpa [vIt] using this
        have h3 := (hHd.cell (i := j) (c := cc) hjl hcl).1
        rw [Nat.zero_add] at h3
        have hx : d'[j]! = x := by
          have h5 : d'[j]? = some x := by rw [← Array.getElem?_toList]; exact hj
          have h6 : d'[j]? = some d'[j] := Array.getElem?_eq_getElem hjl
          rw [h5] at h6
          rw [getElem!_pos d' j hjl]
          exact (Option.some.inj h6).symm
        rw [hx] at h3
        rw [show kIt.sz = 3 from rfl, h3, ← hu]
        have hcl' : cc < (vIt x).length := by simpa [vIt] using hcl
        rw [List.getElem?_eq_getElem hcl', getElem!_pos (vIt x) cc hcl'])
      rw [hlen] at this
      exact this
  · have hlen : xs.length ≤ 1 := by omega
    have hS : Calls Try.prog (sa6_ren.f 6) #[.iface 23 (.slice A xs.length c), .func (.func 88) #[] #[.pointer (some ⟨Bs, 0, none⟩)]] w fun e w' => e = .returned (.tuple #[]) ∧ ∃ os, w' = grow w os := by
      by_cases h0 : xs.length = 0
      · rw [h0]
        exact Any.sort_Slice_tiny sa6 23 44 iT iE hT1 hT2 (by kernel_rfl) hE1 25 (fun _ => by kernel_rfl) A 0 c (by omega) 112 (by rw [show Lib.swapperK 0 iE 25 = 1 from rfl]; kernel_rfl) (.func 88) #[] #[.pointer (some ⟨Bs, 0, none⟩)] w
      · rw [show xs.length = 1 by omega]
        exact Any.sort_Slice_tiny sa6 23 44 iT iE hT1 hT2 (by kernel_rfl) hE1 25 (fun _ => by kernel_rfl) A 1 c (by omega) 113 (by rw [show Lib.swapperK 1 iE 25 = 2 from rfl]; kernel_rfl) (.func 88) #[] #[.pointer (some ⟨Bs, 0, none⟩)] w
    refine hS.mono ?_
    rintro en w' ⟨rfl, os, rfl⟩
    have hbl : Below w.heap.size w (grow w os) := ⟨rfl, rfl, rfl, by rw [size_grow]; omega, fun k hk => heap_grow_old _ _ hk⟩
    have hgr : w.grownBy (grow w os) (Value.slice A xs.length c).ownBlock := ⟨hbl.os, hbl.tape, hbl.output, hbl.size, fun k hk _ => heap_grow_old _ _ hk⟩
    have hR2 : kIt.R e (grow w os) base ok (Value.slice A xs.length c) xs := Kd.R_below hR hbl
    clear hR hBs
    refine ⟨rfl, xs, List.Perm.refl _, ?_, hR2, hgr⟩
    exact pw_short hlen
end Go.Proofs.Ytbbkimgadohdkaa.X
