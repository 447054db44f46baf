/- Conditions: none. -/
import Derived.Test.YtkdendlgaaimbaaYQPlG
import Derived.Test.YtkdendlgaaimbaaYQDrawRows
import Derived.Test.YtkdendlgaaimbaaYQSb
import Derived.RegionTactic
import Derived.BigRegion
namespace Go.Proofs.Ytkdendlgaaimbaa.X
open Go.RowKit
set_option linter.unusedVariables false
set_option linter.unusedSimpArgs false
theorem leastF_free {p : Option Int} : ∀ {m : List It}, (∀ x ∈ m, p ≠ some x.f0) → leastF p m = leastF none m
 | [], _ => by cases p <;> rfl
 | x :: m, h => by rw [leastF, leastF, if_neg (h x List.mem_cons_self), if_neg (by simp)]
theorem leastF_app {k : Int} : ∀ {l m : List It}, (∀ x ∈ l, x.f0 = k) → (∀ x ∈ m, x.f0 ≠ k) → leastF (some k) (l ++ m) = leastF none m
 | [], m, _, h => leastF_free fun x hx e => h x hx (Option.some.inj e).symm
 | x :: l, m, h1, h2 => by
  rw [List.cons_append, leastF, if_pos (by rw [h1 x List.mem_cons_self])]
  exact leastF_app (fun y hy => h1 y (List.mem_cons_of_mem _ hy)) h2
theorem leastF_apps {k : Int} {l m : List It} (h1 : ∀ x ∈ l, x.f0 = k) (h2 : ∀ x ∈ m, x.f0 ≠ k) : leastF none (l ++ m) = l.take 1 ++ leastF none m := by
 cases l with
 | nil => rfl
 | cons x l =>
  rw [List.cons_append, leastF, if_neg (by simp), h1 x List.mem_cons_self, leastF_app (fun y hy => h1 y (List.mem_cons_of_mem _ hy)) h2]
  rfl
theorem keysL_once {s : List It} (hs : setOk s = true) : keysL s 2 4 = onceL s := by
 have := sumK_once s
 unfold sumK setOnce at this
 rw [hs] at this
 exact this
theorem keysL_4 (s : List It) (kind : Int) : keysL s kind 4 = keyL s 0 kind ++ (keyL s 1 kind ++ (keyL s 2 kind ++ keyL s 3 kind)) := by
 unfold keysL; simp [List.range_succ]
theorem keysL_least {s : List It} (hs : setOk s = true) : keysL s 3 4 = leastL s := by
 have h1 : onceL s = keyO s 0 ++ (keyO s 1 ++ (keyO s 2 ++ keyO s 3)) := by
  rw [← keysL_once hs, keysL_4]; rfl
 unfold leastL
 rw [h1, keysL_4]
 have k : ∀ j : Int, ∀ x ∈ keyO s j, x.f0 = j := fun j x hx => (keyO_keys s j x hx).1
 rw [leastF_apps (k 0) (fun x hx => by
  rcases List.mem_append.1 hx with hx | hx
  ·rw [k 1 x hx]; decide
  ·rcases List.mem_append.1 hx with hx | hx
   ·rw [k 2 x hx]; decide
   ·rw [k 3 x hx]; decide)]
 rw [leastF_apps (k 1) (fun x hx => by
  rcases List.mem_append.1 hx with hx | hx
  ·rw [k 2 x hx]; decide
  ·rw [k 3 x hx]; decide)]
 rw [leastF_apps (k 2) (fun x hx => by rw [k 3 x hx]; decide)]
 have e3 : leastF none (keyO s 3) = (keyO s 3).take 1 := by
  have := leastF_apps (k 3) (m := []) (fun x hx => by cases hx)
  rw [List.append_nil] at this
  rw [this]; simp [leastF]
 rw [e3]; rfl
theorem keysL_count (s : List It) : keysL s 1 4 = countedL s := rfl
end Go.Proofs.Ytkdendlgaaimbaa.X
