/- sort.Slice as impl.consolidated calls it: the rows come to stand in order; nothing else turns. Conditions: fewer than 2^62 rows. -/
import Derived.Test.YtbbkimgadohdkaaXSrtD
import Derived.Test.YtbbkimgadohdkaaXRows
import Derived.Test.YtbbkimgadohdkaaXPGathR
namespace Go.Proofs.Ytbbkimgadohdkaa.X
open Go.RowKit Go.Shelf Go.Lib Go.Sort Go.Proofs.YtbbkimgadohdkaaW.PrintWords
set_option linter.unusedVariables false
set_option linter.unusedSimpArgs false

theorem swo_row : SWO rowAhead := ⟨fun x => by
    cases h : rowAhead x x with
    | false => rfl
    | true => exact absurd ((rowAhead_iff _ _).1 h) (ltR_irr x), fun x y z h1 h2 => (rowAhead_iff _ _).2 (ltR_trans ((rowAhead_iff _ _).1 h1) ((rowAhead_iff _ _).1 h2)), fun x y z h1 h2 => by
    cases h : rowAhead x z with
    | false => rfl
    | true =>
      have h3 := (rowAhead_iff _ _).1 h
      have n1 : ¬ ltR x y := fun e => by rw [(rowAhead_iff _ _).2 e] at h1; cases h1
      have n2 : ¬ ltR y z := fun e => by rw [(rowAhead_iff _ _).2 e] at h2; cases h2
      unfold ltR at h3 n1 n2; omega⟩
set_option maxRecDepth 100000 in
set_option maxHeartbeats 2000000 in
/-- the closure's own walk -/
theorem lessRw (blk c Bs size : Nat) (W : World) (G : Nat → Rw) (hs : W.cell? ⟨Bs, 0, none⟩ = some (.slice (some ⟨blk, 0, none⟩) size c))
    (hc : ∀ t, t < size → W.cell? ⟨blk, t * 5, none⟩ = some (.int .i64 (G t).f0) ∧ W.cell? ⟨blk, t * 5 + 1, none⟩ = some (.int .i64 (G t).f1) ∧ W.cell? ⟨blk, t * 5 + 2, none⟩ = some (.int .i64 (G t).f2.f0) ∧ W.cell? ⟨blk, t * 5 + 3, none⟩ = some (.int .i64 (G t).f2.f1) ∧ W.cell? ⟨blk, t * 5 + 4, none⟩ = some (.int .i64 (G t).f3)) (i j : Nat) (hi : i < size) (hj : j < size) (hsz : size < 4611686018427387904) :
    Calls Try.prog 111 #[.int .i64 i, .int .i64 j, .pointer (some ⟨Bs, 0, none⟩)] W fun e w' => e = .returned (.bool (rowAhead (G i) (G j))) ∧ Go.RowKit.Below W.heap.size W w' := by
  obtain ⟨ci0, ci1, ci2, ci3, ci4⟩ := hc i hi
  obtain ⟨cj0, cj1, cj2, cj3, cj4⟩ := hc j hj
  clear hc
  generalize G i = x at *
  generalize G j = y at *
  have gi : (i : Int) < (size : Int) := by omega
  have gj : (j : Int) < (size : Int) := by omega
  have qs := fun u => Ext.cell hs u
  have p0 := fun u => Ext.cell ci0 u
  have p1 := fun u => Ext.cell ci1 u
  have p2 := fun u => Ext.cell ci2 u
  have p3 := fun u => Ext.cell ci3 u
  have p4 := fun u => Ext.cell ci4 u
  have q0 := fun u => Ext.cell cj0 u
  have q1 := fun u => Ext.cell cj1 u
  have q2 := fun u => Ext.cell cj2 u
  have q3 := fun u => Ext.cell cj3 u
  have q4 := fun u => Ext.cell cj4 u
  go_enter Try.func111, Try.ntmps111
  go_wp2
  refine wp_region_ext (by kernel_rfl) (by kernel_rfl) ?_
  repeat (any_goals (first | go_big_quiet_step ((go_at_call 84; exact Calls.extV (impl_rowAhead x y _))) | quiet_step ((go_at_call 84; exact Calls.extV (impl_rowAhead x y _))) | (refine wpQuiet_step (fun K hK => ?_); go_simp; split <;> (refine hK _ ?_; clear hK K))))
  all_goals (refine wpQuiet_nil ?_; intro u)
  go_wp2
  go_ret
  exact ⟨rfl, u.bel⟩
theorem pwR_short {α : Type} {R : α → α → Prop} {l : List α} (h : l.length ≤ 1) : l.Pairwise R := by
  match l, h with
  | [], _ => exact List.Pairwise.nil
  | [x], _ => exact List.pairwise_singleton _ _
set_option maxRecDepth 100000 in
/-- what the kit asks of the slice's type and of its elements' -/
theorem svTRw : ∃ i, Try.prog.info? 36 = some i ∧ i.desc = .slice 56 := ⟨(Try.prog.info? 36).get (by kernel_rfl), by kernel_rfl, by kernel_rfl⟩
theorem svERw : ∃ i, Try.prog.info? 56 = some i ∧ i.size = 5 ∧ i.hasPointers = false ∧ i.bytes = 40 := ⟨(Try.prog.info? 56).get (by kernel_rfl), by kernel_rfl, by kernel_rfl, by kernel_rfl, by kernel_rfl⟩
set_option maxRecDepth 100000 in
set_option maxHeartbeats 2000000 in
theorem sortRw (A : Option Addr) (c Bs base e : Nat) (ok : Nat → Prop) (xs : List Rw) (w : World) (hR : kRw.R e w base ok (.slice A xs.length c) xs) (hBs : w.cell? ⟨Bs, 0, none⟩ = some (.slice A xs.length c)) (hB1 : Bs < w.heap.size) (hB2 : ∀ a, A = some a → Bs ≠ a.block) (hsz : xs.length < 4611686018427387904) :
    Calls Try.prog 87 #[.iface 36 (.slice A xs.length c), .func (.func 111) #[] #[.pointer (some ⟨Bs, 0, none⟩)]] w fun en w' =>
      en = .returned (.tuple #[]) ∧ ∃ ys : List Rw, ys.Perm xs ∧ ys.Pairwise (fun a b => rowAhead b a = false) ∧ kRw.R e w' base ok (.slice A xs.length c) ys ∧ w.grownBy w' (Value.slice A xs.length c).ownBlock := by
  obtain ⟨iT, hT1, hT2⟩ := svTRw
  obtain ⟨iE, hE1, hE2, hE3, hE4⟩ := svERw
  by_cases h2 : 2 ≤ xs.length
  · obtain ⟨g, cap, hv, _⟩ := Kd.R_form hR (by omega)
    cases hv
    obtain ⟨_, hH, cur, hb, hcs, hlc, hcm, hbg, hokg⟩ := holds_of_own vRw (fun _ => rfl) (by decide) (fun h => kRw_M.1 h) hR
    have hblk : g < w.heap.size := (Array.getElem?_eq_some_iff.1 hb).1
    have hne : Bs ≠ g := hB2 _ rfl
    have hless : ∀ (W : World) (dk : Array Rw), dk.size = xs.toArray.size → w.grownBy W (some g) → HoldsK vRw 5 W g 0 dk → ∀ i j : Nat, i < xs.toArray.size → j < xs.toArray.size → Calls Try.prog 111 (#[.int .i64 i, .int .i64 j] ++ #[.pointer (some ⟨Bs, 0, none⟩)]) W fun e w' => e = .returned (.bool (rowAhead dk[i]! dk[j]!)) ∧ Go.RowKit.Below W.heap.size W w' := by
      intro W dk hs hgr hHd i j hi hj
      refine lessRw g c Bs xs.toArray.size W (fun t => dk[t]!) (grownBy_cell hgr hB1 hne (by simpa using hBs)) (fun t ht => ?_) i j hi hj (by simpa using hsz)
      have c0 := (hHd.cell (i := t) (c := 0) (by omega) (by omega)).1
      have c1 := (hHd.cell (i := t) (c := 1) (by omega) (by omega)).1
      have c2 := (hHd.cell (i := t) (c := 2) (by omega) (by omega)).1
      have c3 := (hHd.cell (i := t) (c := 3) (by omega) (by omega)).1
      have c4 := (hHd.cell (i := t) (c := 4) (by omega) (by omega)).1
      rw [Nat.zero_add] at c0 c1 c2 c3 c4
      exact ⟨c0, c1, c2, c3, c4⟩
    have hK : Lib.swapperK xs.toArray.size iE 25 = 9 := by
      have c1 : (xs.toArray.size == 0) = false := by simp; intro h; rw [h] at h2; simp at h2
      have c2 : (xs.toArray.size == 1) = false := by simp; omega
      unfold Lib.swapperK
      rw [c1, c2, hE3, hE4]
      rfl
    have hS := l_sort_Slice sa6 36 56 iT iE hT1 hT2 (by kernel_rfl) hE1 25 (fun _ => by kernel_rfl) vRw 5 (fun _ => rfl) hE2 (fun _ => by kernel_rfl)
      (fun x v hv => by simp [vRw] at hv; rcases hv with rfl | rfl | rfl | rfl | rfl <;> rfl) rowAhead swo_row 111 #[.pointer (some ⟨Bs, 0, none⟩)]
      (enters_of Try.func111 (by kernel_rfl) rfl) g c e (c * 5) xs.toArray (by simpa using h2) (by simpa using hsz) 120 (by rw [hK]; kernel_rfl) false
      (fun args W => run_callFunc_extern Try.func120 (by kernel_rfl) (by kernel_rfl) (by kernel_rfl) (e := Extern.ReflectliteSwapper.swap false) (by kernel_rfl) args W) w hH ⟨cur, hb, hcs⟩ hless
    have hS' := hS
    rw [show xs.toArray.size = xs.length from rfl] at hS'
    refine hS'.mono ?_
    rintro en w' ⟨rfl, d', hp, hso, hHd, ⟨cur', hb', hcs'⟩, hgr⟩
    obtain ⟨hd1, _, hd3⟩ := hp
    have hd4 : d'.size = xs.length := hd1
    have e0 : d'.extract 0 xs.length = d' := by rw [← hd4]; exact Array.extract_size
    have e2 : xs.toArray.extract 0 xs.length = xs.toArray := by
      simp
    rw [e0, e2] at hd3
    have hperm : d'.toList.Perm xs := by simpa using hd3
    refine ⟨rfl, d'.toList, hperm, ?_, ?_, hgr⟩
    · rw [List.pairwise_iff_getElem]
      intro i j hi hj hij
      have := hso i j (Nat.zero_le _) hij (by rw [← hd4]; simpa using hj)
      simpa [show i < d'.size by simpa using hi, show j < d'.size by simpa using hj] using this
    · have hlen : d'.toList.length = xs.length := by simpa using hd4
      have := own_of_cells (d := kRw) (e := e) (base := base) (ok := ok) (xs := d'.toList) vRw (fun _ => rfl) (by decide) (fun _ _ _ x => kRw_M.2 rfl) hb' (by rw [hcs']; rfl) (by rw [hlen]; exact hlc) hcm hbg hokg (fun j x hj cc u hu => by
        have hjl : j < d'.size := by have := (List.getElem?_eq_some_iff.1 hj).1; simpa using this
        have hcl : cc < 5 := by have := (List.getElem?_eq_some_iff.1 hu).1; simpa [vRw] using this
        have h3 := (hHd.cell (i := j) (c := cc) hjl hcl).1
        rw [Nat.zero_add] at h3
        have hx : d'[j]! = x := by
          have h5 : d'[j]? = some x := by rw [← Array.getElem?_toList]; exact hj
          have h6 : d'[j]? = some d'[j] := Array.getElem?_eq_getElem hjl
          rw [h5] at h6
          rw [getElem!_pos d' j hjl]
          exact (Option.some.inj h6).symm
        rw [hx] at h3
        rw [show kRw.sz = 5 from rfl, h3, ← hu]
        have hcl' : cc < (vRw x).length := by simpa [vRw] using hcl
        rw [List.getElem?_eq_getElem hcl', getElem!_pos (vRw x) cc hcl'])
      rw [hlen] at this
      exact this
  · have hlen : xs.length ≤ 1 := by omega
    have hS : Calls Try.prog (sa6_ren.f 6) #[.iface 36 (.slice A xs.length c), .func (.func 111) #[] #[.pointer (some ⟨Bs, 0, none⟩)]] w fun e w' => e = .returned (.tuple #[]) ∧ ∃ os, w' = grow w os := by
      by_cases h0 : xs.length = 0
      · rw [h0]
        exact Any.sort_Slice_tiny sa6 36 56 iT iE hT1 hT2 (by kernel_rfl) hE1 25 (fun _ => by kernel_rfl) A 0 c (by omega) 112 (by rw [show Lib.swapperK 0 iE 25 = 1 from rfl]; kernel_rfl) (.func 111) #[] #[.pointer (some ⟨Bs, 0, none⟩)] w
      · rw [show xs.length = 1 by omega]
        exact Any.sort_Slice_tiny sa6 36 56 iT iE hT1 hT2 (by kernel_rfl) hE1 25 (fun _ => by kernel_rfl) A 1 c (by omega) 113 (by rw [show Lib.swapperK 1 iE 25 = 2 from rfl]; kernel_rfl) (.func 111) #[] #[.pointer (some ⟨Bs, 0, none⟩)] w
    refine hS.mono ?_
    rintro en w' ⟨rfl, os, rfl⟩
    have hbl : Go.RowKit.Below w.heap.size w (grow w os) := ⟨rfl, rfl, rfl, by rw [size_grow]; omega, fun k hk => heap_grow_old _ _ hk⟩
    have hgr : w.grownBy (grow w os) (Value.slice A xs.length c).ownBlock := ⟨hbl.os, hbl.tape, hbl.output, hbl.size, fun k hk _ => heap_grow_old _ _ hk⟩
    have hR2 : kRw.R e (grow w os) base ok (Value.slice A xs.length c) xs := Kd.R_below hR hbl
    clear hR hBs
    refine ⟨rfl, xs, List.Perm.refl _, ?_, hR2, hgr⟩
    exact pwR_short hlen
end Go.Proofs.Ytbbkimgadohdkaa.X
