/- What holds of collections that are mapped, filtered, summed up, taken away. Plain lemmas. Conditions: few copies. -/
import Derived.Test.YtbbkimgadohdkaaXPlS
import Derived.Test.YtbbkimgadohdkaaXSt5
namespace Go.Proofs.Ytbbkimgadohdkaa.X
open Go.RowKit
set_option linter.unusedVariables false
set_option linter.unusedSimpArgs false

theorem small_of {l : List It} {c : Int} (h : massI l ≤ c) : ∀ x ∈ l, (x.f2.natAbs : Int) ≤ c := fun x hx => by have := massI_mem hx; omega
/-! turned twice -/
theorem swap_twice {a b : Int} (ha : 0 ≤ a) (ha' : a ≤ 3) (hb : 0 ≤ b) (hb' : b ≤ 99) (ψ : Int → Int → Int) : eachW 1 (eachW 1 ψ) a b = ψ a b := by
  unfold eachW eachKV
  simp only [if_true]
  have e1 : (b - b % 4 + a) % 4 = a := by omega
  have e2 : b - b % 4 + a - a + b % 4 = b := by omega
  rw [e1, e2]
theorem setEach_swap {s : List It} (hs : setOk s = true) (ms : massI s ≤ 30) (ls : s.length ≤ 9) : setEach (setEach s 1) 1 = s := by
  have fs := Few.of hs ms ls
  have o1 := (fs.each 1).ok (by omega) (by omega)
  have m1 := mass_each 1 s
  have i1 := items_mass (l := s.flatMap (eachI 1)) (by omega)
  have m2 := mass_each 1 (items (s.flatMap (eachI 1)))
  unfold setEach
  simp only [hs, o1, show decide ((1 : Int) ≤ 1) = true from rfl, show decide ((1 : Int) ≤ 7) = true from rfl, Bool.and_self, if_true]
  refine canonI_eq (items_canon _) (setOk_canon hs).1 (fun ψ => ?_)
  rw [items_sh (by omega), sh_each, items_sh (by omega), sh_each]
  refine sg_congr fun x hx => ?_
  have := sOk_of hs x hx
  unfold shI
  rw [swap_twice (by omega) (by omega) (by omega) (by omega)]
/-! kept -/
def keepP (how : Int) (x : It) : Bool := if how = 5 then decide (x.f1 % 2 = 0) else if how = 6 then decide (x.f0 % 2 = 0) else decide (x.f1 < 10)
theorem eachI_keep {how : Int} (h5 : 5 ≤ how) (h7 : how ≤ 7) (x : It) : eachI how x = if keepP how x = true then [x] else [] := by
  rw [eachI_3 (by omega) h7]
  rcases (show how = 5 ∨ how = 6 ∨ how = 7 by omega) with rfl | rfl | rfl <;> simp [each3, keepP]
theorem flatMap_keep {how : Int} (h5 : 5 ≤ how) (h7 : how ≤ 7) : ∀ s : List It, s.flatMap (eachI how) = s.filter (keepP how)
  | [] => rfl
  | x :: s => by
    rw [List.flatMap_cons, eachI_keep h5 h7, flatMap_keep h5 h7 s]
    by_cases h : keepP how x = true
    · rw [if_pos h, List.filter_cons_of_pos h]; rfl
    · rw [if_neg h, List.filter_cons_of_neg h]; rfl
theorem setEach_keep {s : List It} {how : Int} (hs : setOk s = true) (h5 : 5 ≤ how) (h7 : how ≤ 7) : setEach s how = s.filter (keepP how) := by
  have hc := (setOk_canon hs).1
  have hm := massI_ok hs
  unfold setEach
  rw [hs, decide_eq_true (show (1 : Int) ≤ how by omega), decide_eq_true h7, flatMap_keep h5 h7]
  simp only [Bool.and_self, if_true]
  refine items_self ⟨hc.1.filter _, fun x hx => hc.2 x (List.mem_filter.1 hx).1⟩ ?_
  have : massI (s.filter (keepP how)) ≤ massI s := by unfold massI; rw [sg_filter]; exact sg_le fun x _ => by split <;> omega
  omega
theorem setOk_filter {s : List It} (hs : setOk s = true) (p : It → Bool) : setOk (s.filter p) = true := by
  obtain ⟨h1, h2, h3⟩ := setOk_canon hs
  exact setOk_of ⟨h1.1.filter _, fun x hx => h1.2 x (List.mem_filter.1 hx).1⟩ (fun x hx => (h2 x (List.mem_filter.1 hx).1).1) (fun x hx => (h2 x (List.mem_filter.1 hx).1).2) (Nat.le_trans (List.length_filter_le _ _) h3)
theorem setEach_kept {s : List It} {how : Int} (hs : setOk s = true) (h5 : 5 ≤ how) (h7 : how ≤ 7) : (∀ y ∈ setEach s how, y ∈ s) ∧ setEach (setEach s how) how = setEach s how := by
  rw [setEach_keep hs h5 h7, setEach_keep (setOk_filter hs _) h5 h7, List.filter_filter]
  exact ⟨fun y hy => (List.mem_filter.1 hy).1, by simp⟩
/-! what is made of two is made of each -/
theorem setEach_both {s t : List It} {how : Int} (hs : setOk s = true) (ht : setOk t = true) (ms : massI s ≤ 30) (mt : massI t ≤ 30) (ls : s.length ≤ 9) (lt : t.length ≤ 9) (h1 : 1 ≤ how) (h7 : how ≤ 7) : setEach (setBoth s t) how = setBoth (setEach s how) (setEach t how) := by
  have fs := Few.of hs ms ls
  have ft := Few.of ht mt lt
  have o0 := (fs.append ft).ok (by omega) (by omega)
  have o1 := (fs.each how).ok (by omega) (by omega)
  have o2 := (ft.each how).ok (by omega) (by omega)
  have m1 := mass_each how s
  have m2 := mass_each how t
  have m3 : massI (s ++ t) ≤ 60 := by rw [massI_append]; omega
  have m4 := items_mass (l := s ++ t) (by omega)
  have m5 := mass_each how (items (s ++ t))
  unfold setEach setBoth
  simp only [hs, ht, o0, o1, o2, decide_eq_true h1, decide_eq_true h7, Bool.and_self, if_true]
  rw [items_items (by omega) (by omega)]
  refine items_eq (by omega) (by rw [massI_append]; omega) (fun ψ => ?_)
  rw [sh_each, items_sh (by omega), sh_append, sh_append, sh_each, sh_each]
/-! doubled -/
def dblI (x : It) : It := ⟨x.f0, x.f1, 2 * x.f2⟩
theorem setBoth_self {s : List It} (hs : setOk s = true) (ms : massI s ≤ 30) (ls : s.length ≤ 9) : setBoth s s = s.map dblI ∧ setOk (s.map dblI) = true := by
  have fs := Few.of hs ms ls
  have hc := (setOk_canon hs).1
  have o0 := (fs.append fs).ok (by omega) (by omega)
  have m3 : massI (s ++ s) ≤ 60 := by rw [massI_append]; omega
  have e : items (s ++ s) = s.map dblI := by
    refine canonI_eq (items_canon _) ⟨List.pairwise_map.2 (hc.1.imp fun {x y} e => e), fun y hy => ?_⟩ (fun ψ => ?_)
    · obtain ⟨x, hx, rfl⟩ := List.mem_map.1 hy
      have := hc.2 x hx
      simp only [dblI]; omega
    · rw [items_sh (by omega), sh_append, sg_map]
      have : sg (fun x => shI ψ (dblI x)) s = sg (fun x => shI ψ x + shI ψ x) s := sg_congr fun x _ => by simp only [shI, dblI]; rw [Int.mul_assoc, Int.two_mul]
      rw [this, sg_add]
  rw [e] at o0
  unfold setBoth
  simp only [hs, Bool.and_self, if_true]
  exact ⟨e, o0⟩
theorem onceL_dbl : ∀ s : List It, onceL (s.map dblI) = onceL s
  | [] => rfl
  | x :: s => by
    have ih := onceL_dbl s
    unfold onceL at ih ⊢
    rw [List.map_cons]
    by_cases h : 0 < x.f2
    · have e : 0 < (dblI x).f2 := (by show 0 < 2 * x.f2; omega)
      rw [List.filter_cons_of_pos (p := fun x : It => decide (0 < x.f2)) (decide_eq_true e), List.filter_cons_of_pos (by simpa using h), List.map_cons, List.map_cons, ih]; rfl
    · have e : ¬ 0 < (dblI x).f2 := (by show ¬ 0 < 2 * x.f2; omega)
      rw [List.filter_cons_of_neg (p := fun x : It => decide (0 < x.f2)) (fun e2 => e (of_decide_eq_true e2)), List.filter_cons_of_neg (by simpa using h), ih]
theorem setOnce_more {s : List It} (hs : setOk s = true) (ms : massI s ≤ 30) (ls : s.length ≤ 9) : setOnce (setBoth s s) = setOnce s ∧ setLeast (setBoth s s) = setLeast s := by
  obtain ⟨e, o⟩ := setBoth_self hs ms ls
  rw [e]
  unfold setOnce setLeast leastL
  rw [o, hs, onceL_dbl]
  exact ⟨rfl, rfl⟩
/-! taken away -/
theorem neg_small {c : Int} {n : Nat} {l : List It} (h : Few c n l) (hc : c ≤ 1000000) : ∀ x ∈ l, (x.f2.natAbs : Int) ≤ 1099511627776 := fun x hx => by have := massI_mem hx; have := h.mass; omega
theorem setJoin_less {s t : List It} (hs : setOk s = true) (ht : setOk t = true) (ms : massI s ≤ 30) (mt : massI t ≤ 30) (ls : s.length ≤ 9) (lt : t.length ≤ 9) :
    setJoin (setLess s) t = setLess (setJoin s t) ∧ setJoin s (setLess t) = setLess (setJoin s t) := by
  have fs := Few.of hs ms ls
  have ft := Few.of ht mt lt
  have ns := neg_small fs (by omega)
  have nt := neg_small ft (by omega)
  have os := setOk_less hs
  have ot := setOk_less ht
  have fp := fs.pairs ft (by omega) (by omega)
  have oj := fp.ok (by omega) (by omega)
  have np := neg_small (fp.items (by omega)) (by omega)
  have es := mass_neg ns
  have et := mass_neg nt
  have p0 := mul_small (c := 30) (d := 30) ms mt (by omega) (by omega)
  have p1 := mul_small (c := 30) (d := 30) (show massI (s.map negI) ≤ 30 by omega) mt (by omega) (by omega)
  have p2 := mul_small (c := 30) (d := 30) ms (show massI (t.map negI) ≤ 30 by omega) (by omega) (by omega)
  have q0 := mass_pairs (c := 1000000) p0 (by omega)
  have q1 := mass_pairs (c := 1000000) p1 (by omega)
  have q2 := mass_pairs (c := 1000000) p2 (by omega)
  unfold setJoin setLess
  simp only [hs, ht, os, ot, oj, Bool.and_self, if_true]
  constructor
  · refine canonI_eq (items_canon _) (canonI_neg (items_canon _) np) (fun ψ => ?_)
    rw [items_sh (by omega), sh_neg np, items_sh (by omega), sh_pairs p1 (by omega), sh_pairs p0 (by omega), sh_neg ns]
  · refine canonI_eq (items_canon _) (canonI_neg (items_canon _) np) (fun ψ => ?_)
    rw [items_sh (by omega), sh_neg np, items_sh (by omega), sh_pairs2 p2 (by omega), sh_pairs2 p0 (by omega), sh_neg nt]
end Go.Proofs.Ytbbkimgadohdkaa.X
