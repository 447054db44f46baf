/- The walks of the functions on collections, first part. Conditions: none. -/
import Derived.Test.YthljcnlmeefcjaaYMLb
import Derived.Deep.QuietTactic
import Derived.BigQuiet
import Derived.Test.YthljcnlmeefcjaaYCMg
import Derived.Test.YthljcnlmeefcjaaYCBs
import Derived.Test.YthljcnlmeefcjaaYMBs
import Derived.WideKeyEntry
import Derived.Maps.RangeWalk
import Derived.Maps.OwnOps
import Derived.Maps.Ext
import Derived.DeepKeys4
import Derived.MapViews
import Derived.Test.YthljcnlmeefcjaaYCSo
import Derived.Shelf.SlSortFuncK.WholeK
import Derived.Shelf.GgSortFunc.Tiny
import Derived.Test.YthljcnlmeefcjaaProg
import Derived.Sort.LotA
import Derived.Sort.OwnSorted
import Derived.Shelf.SlSortFuncK.ComposeK
import Derived.Shelf.GgSortFunc.SmallK
import Derived.Shelf.GgSortFunc.LotD
import Derived.Sort.WalkB3
import Derived.Below
import Derived.Test.YthljcnlmeefcjaaYCPl
import Derived.Test.YthljcnlmeefcjaaYMPl
import Derived.RegionTactic
import Derived.BigRegion
import Derived.Test.YthljcnlmeefcjaaYCSr
import Derived.Test.YthljcnlmeefcjaaYCSrtB
import Derived.Sort.Walk11
import Derived.Sort.LotD1
import Derived.Sort.LotD4
import Derived.Test.YthljcnlmeefcjaaYCSq
import Derived.Sort.WalkA6
import Derived.Sort.WalkB2
import Derived.Sort.WalkC4
import Derived.Deep.LoopGhost
import Derived.Shelf.SlSortFuncK.BreakPatternsK
import Derived.Sort.Walk13
import Derived.Sort.AssemblyPlain
import Derived.OwnWalk
namespace Go.Proofs.Ythljcnlmeefcjaa.X
open Go.RowKit Go.Proofs.YthljcnlmeefcjaaW.PrintWords
set_option linter.unusedVariables false
set_option linter.unusedSimpArgs false

theorem wrapI (n : Int) : IntKind.i64.wrap n = wrap64 n := by unfold wrap64; exact IntKind.wrap_i64 n
theorem blk_grown {W w1 : World} {X : Nat} {o : Obj} {r : Option Nat} (h : W.heap[X]? = some o) (hg : W.grownBy w1 r) (hne : some X ≠ r) : w1.heap[X]? = some o := (hg.block X (blk_lt h) hne).trans h
section
variable {α : Type} {d : Kd α} {e : Nat} {w w1 : World} {base X : Nat} {ok ok' : Nat → Prop} {v : Value} {xs : List α}
theorem R_apart (h : d.R e w base ok v xs) (hX : ¬ ok X) : some X ≠ v.ownBlock := fun e => hX (h.1 X e.symm)
theorem R_ge (h : d.R e w base ok v xs) {g : Nat} (hv : v.ownBlock = some g) : base ≤ g := ((Kd.R_bound h).1 g hv).2.1
theorem R_new (h : d.R e w base ok v xs) (hX : w.heap.size ≤ X) (hok : ∀ q, ok q → q < X → ok' q) : d.R e w base ok' v xs := Kd.R_mono (Kd.R_bound h) (fun q hq => hok q hq.1 (by have := hq.2.2.1; omega))
/-- what stands apart from a slice of one's own stands behind an append to it -/
theorem blk_app {o : Obj} (h : d.R e w base ok v xs) (hg : w.grownBy w1 v.ownBlock) (hb : w.heap[X]? = some o) (hX : ¬ ok X) : w1.heap[X]? = some o := blk_grown hb hg (R_apart h hX)
theorem cell_app {a : Addr} {u : Value} (h : d.R e w base ok v xs) (hg : w.grownBy w1 v.ownBlock) (hc : w.cell? a = some u) (ha : a.block < base ∨ ¬ ok a.block) : w1.cell? a = some u := by
  have hne : some a.block ≠ v.ownBlock := fun e => ha.elim (fun hl => by have := R_ge h e.symm; omega) (fun hn => hn (h.1 _ e.symm))
  have hl := World.block_lt_of_cell? w _ hc
  have hb := hg.block a.block hl hne
  unfold World.cell? at hc ⊢
  rw [hb]; exact hc
end
theorem add_blk (ad : Addr) (n : Nat) : (ad.add n).block = ad.block := by unfold Addr.add; first | rfl | (split <;> rfl) | (cases ad; simp)
theorem rwLt {w : World} {ad : Addr} {xs : List Rw} (h : kRw.C w (some ad) xs.length xs) {k : Nat} (hk : k < xs.length) : ad.block < w.heap.size := by
  obtain ⟨ad', x, e, HX, h0, _⟩ := rdRw h (Below.refl _ _) hk
  cases e
  exact add_blk ad (k * 5) ▸ World.block_lt_of_cell? w (ad.add (k * 5)) h0
theorem tmLt {w : World} {ad : Addr} {xs : List Tm} (h : kTm.C w (some ad) xs.length xs) {k : Nat} (hk : k < xs.length) : ad.block < w.heap.size := by
  obtain ⟨ad', x, e, HX, h0, _⟩ := rdTm h (Below.refl _ _) hk
  cases e
  exact add_blk ad (k * 2) ▸ World.block_lt_of_cell? w (ad.add (k * 2)) h0
end Go.Proofs.Ythljcnlmeefcjaa.X

namespace Go.Proofs.Ythljcnlmeefcjaa.X
open Go.RowKit Go.Proofs.YthljcnlmeefcjaaW.PrintWords
set_option linter.unusedVariables false
set_option linter.unusedSimpArgs false

theorem wf_of {a : Int} (h0 : -9223372036854775808 ≤ a) (h1 : a ≤ 9223372036854775807) : wfI a := (wfI_iff a).2 (by omega)
set_option maxRecDepth 100000 in
set_option maxHeartbeats 400000 in
theorem impl_joinedVal (a b : Int) (w : World) : Calls Try.prog 196 #[.int .i64 a, .int .i64 b] w (fun e w' => e = .returned (.int .i64 (jval a b)) ∧ w = w') := by
  go_enter Try.func196, Try.ntmps196
  go_wp2
  go_ret
  exact ⟨rfl, rfl⟩
set_option maxRecDepth 100000 in
set_option maxHeartbeats 400000 in
theorem spec_l3Pair (a b : Int) (w : World) : Calls Try.prog 199 #[.int .i64 a, .int .i64 b] w (fun e w' => e = .returned (.int .i64 (jval a b)) ∧ w = w') := by
  go_enter Try.func199, Try.ntmps199
  go_wp2
  go_ret
  exact ⟨by unfold jval; rw [Int.mul_comm]; rfl, rfl⟩
end Go.Proofs.Ythljcnlmeefcjaa.X

namespace Go.Proofs.Ythljcnlmeefcjaa.X
open Go.RowKit Go.Proofs.YthljcnlmeefcjaaW.PrintWords
set_option linter.unusedVariables false
set_option linter.unusedSimpArgs false

end Go.Proofs.Ythljcnlmeefcjaa.X

namespace Go.Proofs.Ythljcnlmeefcjaa.X
open Go.RowKit Go.Proofs.YthljcnlmeefcjaaW.PrintWords
set_option linter.unusedVariables false
set_option linter.unusedSimpArgs false

/-- what each answers: key, value, kept -/
def each3 (a b how : Int) : Int × Int × Bool :=
  if how = 1 then (b % 4, b - b % 4 + a, true) else if how = 2 then (a, (b + 1) % 100, true) else if how = 3 then (b % 4, b, true) else if how = 4 then (0, b, true)
  else if how = 5 then (a, b, decide (b % 2 = 0)) else if how = 6 then (a, b, decide (a % 2 = 0)) else (a, b, decide (b < 10))
theorem each3_kv {a b how : Int} (h0 : 1 ≤ how) (h1 : how ≤ 7) : eachKV a b how = if (each3 a b how).2.2 = true then some ((each3 a b how).1, (each3 a b how).2.1) else none := by
  unfold eachKV each3
  by_cases e1 : how = 1
  · simp [e1]
  by_cases e2 : how = 2
  · simp [e2]
  by_cases e3 : how = 3
  · simp [e3]
  by_cases e4 : how = 4
  · simp [e4]
  by_cases e5 : how = 5
  · simp [e5]
  by_cases e6 : how = 6
  · simp [e6]
  have e7 : how = 7 := by omega
  simp [e7]
set_option maxRecDepth 100000 in
set_option maxHeartbeats 1000000 in
theorem impl_each (a b how : Int) (ha : 0 ≤ a) (ha' : a ≤ 3) (hb : 0 ≤ b) (hb' : b ≤ 99) (h0 : 1 ≤ how) (h1 : how ≤ 7) (w : World) : Calls Try.prog 191 #[.int .i64 a, .int .i64 b, .int .i64 how] w (fun e w' => e = .returned (.tuple #[.int .i64 (each3 a b how).1, .int .i64 (each3 a b how).2.1, .bool (each3 a b how).2.2]) ∧ w = w') := by
  unfold each3
  rcases (show how = 1 ∨ how = 2 ∨ how = 3 ∨ how = 4 ∨ how = 5 ∨ how = 6 ∨ how = 7 by omega) with rfl | rfl | rfl | rfl | rfl | rfl | rfl
  all_goals
    go_enter Try.func191, Try.ntmps191
    go_wp2
    go_ret3
    exact ⟨by first | (simp; done) | (simp; rfl), rfl⟩
set_option maxRecDepth 100000 in
set_option maxHeartbeats 400000 in
theorem impl_howOk (how : Int) (w : World) : Calls Try.prog 142 #[.int .i64 how] w (fun e w' => e = .returned (.bool (decide (1 ≤ how) && decide (how ≤ 7))) ∧ w = w') := by
  by_cases h0 : 1 ≤ how <;> by_cases h1 : how ≤ 7
  all_goals
    go_enter Try.func142, Try.ntmps142
    go_wp2
    go_ret
    exact ⟨by simp [h0, h1], rfl⟩
theorem fm_snoc {α β : Type} {s : List α} {k : Nat} {x : α} (hx : s[k]? = some x) (g : α → List β) : (s.take (k + 1)).flatMap g = (s.take k).flatMap g ++ g x := by
  rw [take_snoc hx, List.flatMap_append]; simp
end Go.Proofs.Ythljcnlmeefcjaa.X

