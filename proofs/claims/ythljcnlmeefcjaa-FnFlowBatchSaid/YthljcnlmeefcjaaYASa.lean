/- The walks of the functions on collections, first part. Conditions: none. -/
import Derived.Test.YthljcnlmeefcjaaYALb
import Derived.Deep.QuietTactic
import Derived.BigQuiet
import Derived.Test.YthljcnlmeefcjaaYCMg
import Derived.Test.YthljcnlmeefcjaaYAMg
import Derived.OwnWalk
namespace Go.Proofs.Ythljcnlmeefcjaa.X
open Go.RowKit Go.Proofs.YthljcnlmeefcjaaW.PrintWords
set_option linter.unusedVariables false
set_option linter.unusedSimpArgs false

theorem wrapI (n : Int) : IntKind.i64.wrap n = wrap64 n := by unfold wrap64; exact IntKind.wrap_i64 n
theorem blk_grown {W w1 : World} {X : Nat} {o : Obj} {r : Option Nat} (h : W.heap[X]? = some o) (hg : W.grownBy w1 r) (hne : some X ≠ r) : w1.heap[X]? = some o := (hg.block X (blk_lt h) hne).trans h
section
variable {α : Type} {d : Kd α} {e : Nat} {w w1 : World} {base X : Nat} {ok ok' : Nat → Prop} {v : Value} {xs : List α}
theorem R_apart (h : d.R e w base ok v xs) (hX : ¬ ok X) : some X ≠ v.ownBlock := fun e => hX (h.1 X e.symm)
theorem R_ge (h : d.R e w base ok v xs) {g : Nat} (hv : v.ownBlock = some g) : base ≤ g := ((Kd.R_bound h).1 g hv).2.1
theorem R_new (h : d.R e w base ok v xs) (hX : w.heap.size ≤ X) (hok : ∀ q, ok q → q < X → ok' q) : d.R e w base ok' v xs := Kd.R_mono (Kd.R_bound h) (fun q hq => hok q hq.1 (by have := hq.2.2.1; omega))
/-- what stands apart from a slice of one's own stands behind an append to it -/
theorem blk_app {o : Obj} (h : d.R e w base ok v xs) (hg : w.grownBy w1 v.ownBlock) (hb : w.heap[X]? = some o) (hX : ¬ ok X) : w1.heap[X]? = some o := blk_grown hb hg (R_apart h hX)
theorem cell_app {a : Addr} {u : Value} (h : d.R e w base ok v xs) (hg : w.grownBy w1 v.ownBlock) (hc : w.cell? a = some u) (ha : a.block < base ∨ ¬ ok a.block) : w1.cell? a = some u := by
  have hne : some a.block ≠ v.ownBlock := fun e => ha.elim (fun hl => by have := R_ge h e.symm; omega) (fun hn => hn (h.1 _ e.symm))
  have hl := World.block_lt_of_cell? w _ hc
  have hb := hg.block a.block hl hne
  unfold World.cell? at hc ⊢
  rw [hb]; exact hc
end
theorem add_blk (ad : Addr) (n : Nat) : (ad.add n).block = ad.block := by unfold Addr.add; first | rfl | (split <;> rfl) | (cases ad; simp)
theorem rwLt {w : World} {ad : Addr} {xs : List Rw} (h : kRw.C w (some ad) xs.length xs) {k : Nat} (hk : k < xs.length) : ad.block < w.heap.size := by
  obtain ⟨ad', x, e, HX, h0, _⟩ := rdRw h (Below.refl _ _) hk
  cases e
  exact add_blk ad (k * 5) ▸ World.block_lt_of_cell? w (ad.add (k * 5)) h0
end Go.Proofs.Ythljcnlmeefcjaa.X

namespace Go.Proofs.Ythljcnlmeefcjaa.X
open Go.RowKit Go.Proofs.YthljcnlmeefcjaaW.PrintWords
set_option linter.unusedVariables false
set_option linter.unusedSimpArgs false

theorem wf_of {a : Int} (h0 : -9223372036854775808 ≤ a) (h1 : a ≤ 9223372036854775807) : wfI a := (wfI_iff a).2 (by omega)
theorem sOk_of {l : List It} (h : setOk l = true) : ∀ x ∈ l, 0 ≤ x.f0 ∧ x.f0 ≤ 3 ∧ 0 ≤ x.f1 ∧ x.f1 ≤ 99 ∧ x.f2 ≠ 0 ∧ -1099511627776 ≤ x.f2 ∧ x.f2 ≤ 1099511627776 := fun x hx => by
  obtain ⟨h1, h2, h3⟩ := setOk_canon h
  have := h2 x hx
  have := h1.2 x hx
  unfold keyOk at *
  omega
theorem setOk_len {l : List It} (h : setOk l = true) : l.length ≤ 400 := (setOk_canon h).2.2
set_option maxRecDepth 100000 in
set_option maxHeartbeats 400000 in
theorem impl_joinedVal (a b : Int) (w : World) : Calls Try.prog 196 #[.int .i64 a, .int .i64 b] w (fun e w' => e = .returned (.int .i64 (jval a b)) ∧ w = w') := by
  go_enter Try.func196, Try.ntmps196
  go_wp2
  go_ret
  exact ⟨rfl, rfl⟩
end Go.Proofs.Ythljcnlmeefcjaa.X

namespace Go.Proofs.Ythljcnlmeefcjaa.X
open Go.RowKit Go.Proofs.YthljcnlmeefcjaaW.PrintWords
set_option linter.unusedVariables false
set_option linter.unusedSimpArgs false

end Go.Proofs.Ythljcnlmeefcjaa.X

namespace Go.Proofs.Ythljcnlmeefcjaa.X
open Go.RowKit Go.Proofs.YthljcnlmeefcjaaW.PrintWords
set_option linter.unusedVariables false
set_option linter.unusedSimpArgs false

/-- what each answers: key, value, kept -/
def each3 (a b how : Int) : Int × Int × Bool :=
  if how = 1 then (b % 4, b - b % 4 + a, true) else if how = 2 then (a, (b + 1) % 100, true) else if how = 3 then (b % 4, b, true) else if how = 4 then (0, b, true)
  else if how = 5 then (a, b, decide (b % 2 = 0)) else if how = 6 then (a, b, decide (a % 2 = 0)) else (a, b, decide (b < 10))
theorem each3_kv {a b how : Int} (h0 : 1 ≤ how) (h1 : how ≤ 7) : eachKV a b how = if (each3 a b how).2.2 = true then some ((each3 a b how).1, (each3 a b how).2.1) else none := by
  unfold eachKV each3
  by_cases e1 : how = 1
  · simp [e1]
  by_cases e2 : how = 2
  · simp [e2]
  by_cases e3 : how = 3
  · simp [e3]
  by_cases e4 : how = 4
  · simp [e4]
  by_cases e5 : how = 5
  · simp [e5]
  by_cases e6 : how = 6
  · simp [e6]
  have e7 : how = 7 := by omega
  simp [e7]
set_option maxRecDepth 100000 in
set_option maxHeartbeats 1000000 in
theorem impl_each (a b how : Int) (ha : 0 ≤ a) (ha' : a ≤ 3) (hb : 0 ≤ b) (hb' : b ≤ 99) (h0 : 1 ≤ how) (h1 : how ≤ 7) (w : World) : Calls Try.prog 191 #[.int .i64 a, .int .i64 b, .int .i64 how] w (fun e w' => e = .returned (.tuple #[.int .i64 (each3 a b how).1, .int .i64 (each3 a b how).2.1, .bool (each3 a b how).2.2]) ∧ w = w') := by
  unfold each3
  rcases (show how = 1 ∨ how = 2 ∨ how = 3 ∨ how = 4 ∨ how = 5 ∨ how = 6 ∨ how = 7 by omega) with rfl | rfl | rfl | rfl | rfl | rfl | rfl
  all_goals
    go_enter Try.func191, Try.ntmps191
    go_wp2
    go_ret3
    exact ⟨by first | (simp; done) | (simp; rfl), rfl⟩
set_option maxRecDepth 100000 in
set_option maxHeartbeats 1000000 in
theorem spec_l3One (a b how : Int) (ha : 0 ≤ a) (ha' : a ≤ 3) (hb : 0 ≤ b) (hb' : b ≤ 99) (h0 : 1 ≤ how) (h1 : how ≤ 7) (w : World) : Calls Try.prog 192 #[.int .i64 a, .int .i64 b, .int .i64 how] w (fun e w' => e = .returned (.tuple #[.int .i64 (each3 a b how).1, .int .i64 (each3 a b how).2.1, .bool (each3 a b how).2.2]) ∧ w = w') := by
  unfold each3
  rcases (show how = 1 ∨ how = 2 ∨ how = 3 ∨ how = 4 ∨ how = 5 ∨ how = 6 ∨ how = 7 by omega) with rfl | rfl | rfl | rfl | rfl | rfl | rfl
  all_goals
    go_enter Try.func192, Try.ntmps192
    go_wp2
    go_ret3
    exact ⟨by first | (simp; done) | (simp; rfl) | (simp; omega), rfl⟩
set_option maxRecDepth 100000 in
set_option maxHeartbeats 400000 in
theorem impl_howOk (how : Int) (w : World) : Calls Try.prog 142 #[.int .i64 how] w (fun e w' => e = .returned (.bool (decide (1 ≤ how) && decide (how ≤ 7))) ∧ w = w') := by
  by_cases h0 : 1 ≤ how <;> by_cases h1 : how ≤ 7
  all_goals
    go_enter Try.func142, Try.ntmps142
    go_wp2
    go_ret
    exact ⟨by simp [h0, h1], rfl⟩
set_option maxRecDepth 100000 in
set_option maxHeartbeats 400000 in
theorem spec_l3Way (how : Int) (w : World) : Calls Try.prog 144 #[.int .i64 how] w (fun e w' => e = .returned (.bool (decide (1 ≤ how) && decide (how ≤ 7))) ∧ w = w') := by
  go_enter Try.func144, Try.ntmps144
  go_wp2_with (go_at_call 153; ((with_reducible refine (spec_l6In _ _ _ _).mono ?_); rintro e w' ⟨rfl, rfl⟩))
  go_ret
  exact ⟨rfl, rfl⟩
theorem fm_snoc {α β : Type} {s : List α} {k : Nat} {x : α} (hx : s[k]? = some x) (g : α → List β) : (s.take (k + 1)).flatMap g = (s.take k).flatMap g ++ g x := by
  rw [take_snoc hx, List.flatMap_append]; simp
theorem Calls.extQ {P : Program} {f : FuncId} {args : Array Value} {w : World} {u : Ext w} {v : Value} (h : Calls P f args u.w' fun e w' => e = .returned v ∧ u.w' = w') : Calls P f args u.w' fun e w'' => e = .returned v ∧ ∃ u' : Ext w, w'' = u'.w' :=
  h.mono fun _ w'' ⟨he, hw⟩ => ⟨he, u, hw.symm⟩
end Go.Proofs.Ythljcnlmeefcjaa.X

