/- The walks of the functions on collections, first part. Conditions: none. -/
import Derived.Test.YthljcnlmeefcjaaGreatYMLb
import Derived.Deep.QuietTactic
import Derived.BigQuiet
import Derived.Test.YthljcnlmeefcjaaGreatYCMg
import Derived.Test.YthljcnlmeefcjaaGreatYMMg
import Derived.OwnWalk
namespace Go.Proofs.YthljcnlmeefcjaaGreat.X
open Go.RowKit Go.Proofs.YthljcnlmeefcjaaGreatW.PrintWords
set_option linter.unusedVariables false
set_option linter.unusedSimpArgs false

theorem wrapI (n : Int) : IntKind.i64.wrap n = wrap64 n := by unfold wrap64; exact IntKind.wrap_i64 n
theorem blk_grown {W w1 : World} {X : Nat} {o : Obj} {r : Option Nat} (h : W.heap[X]? = some o) (hg : W.grownBy w1 r) (hne : some X ≠ r) : w1.heap[X]? = some o := (hg.block X (blk_lt h) hne).trans h
section
variable {α : Type} {d : Kd α} {e : Nat} {w w1 : World} {base X : Nat} {ok ok' : Nat → Prop} {v : Value} {xs : List α}
theorem R_apart (h : d.R e w base ok v xs) (hX : ¬ ok X) : some X ≠ v.ownBlock := fun e => hX (h.1 X e.symm)
theorem R_ge (h : d.R e w base ok v xs) {g : Nat} (hv : v.ownBlock = some g) : base ≤ g := ((Kd.R_bound h).1 g hv).2.1
theorem R_new (h : d.R e w base ok v xs) (hX : w.heap.size ≤ X) (hok : ∀ q, ok q → q < X → ok' q) : d.R e w base ok' v xs := Kd.R_mono (Kd.R_bound h) (fun q hq => hok q hq.1 (by have := hq.2.2.1; omega))
/-- what stands apart from a slice of one's own stands behind an append to it -/
theorem blk_app {o : Obj} (h : d.R e w base ok v xs) (hg : w.grownBy w1 v.ownBlock) (hb : w.heap[X]? = some o) (hX : ¬ ok X) : w1.heap[X]? = some o := blk_grown hb hg (R_apart h hX)
theorem cell_app {a : Addr} {u : Value} (h : d.R e w base ok v xs) (hg : w.grownBy w1 v.ownBlock) (hc : w.cell? a = some u) (ha : a.block < base ∨ ¬ ok a.block) : w1.cell? a = some u := by
  have hne : some a.block ≠ v.ownBlock := fun e => ha.elim (fun hl => by have := R_ge h e.symm; omega) (fun hn => hn (h.1 _ e.symm))
  have hl := World.block_lt_of_cell? w _ hc
  have hb := hg.block a.block hl hne
  unfold World.cell? at hc ⊢
  rw [hb]; exact hc
end
theorem add_blk (ad : Addr) (n : Nat) : (ad.add n).block = ad.block := by unfold Addr.add; first | rfl | (split <;> rfl) | (cases ad; simp)
theorem tmLt {w : World} {ad : Addr} {xs : List Tm} (h : kTm.C w (some ad) xs.length xs) {k : Nat} (hk : k < xs.length) : ad.block < w.heap.size := by
  obtain ⟨ad', x, e, HX, h0, _⟩ := rdTm h (Below.refl _ _) hk
  cases e
  exact add_blk ad (k * 2) ▸ World.block_lt_of_cell? w (ad.add (k * 2)) h0
end Go.Proofs.YthljcnlmeefcjaaGreat.X

namespace Go.Proofs.YthljcnlmeefcjaaGreat.X
open Go.RowKit Go.Proofs.YthljcnlmeefcjaaGreatW.PrintWords
set_option linter.unusedVariables false
set_option linter.unusedSimpArgs false

theorem wf_of {a : Int} (h0 : -9223372036854775808 ≤ a) (h1 : a ≤ 9223372036854775807) : wfI a := (wfI_iff a).2 (by omega)
theorem sOk_of {l : List It} (h : setOk l = true) : ∀ x ∈ l, 0 ≤ x.f0 ∧ x.f0 ≤ 3 ∧ 0 ≤ x.f1 ∧ x.f1 ≤ 99 ∧ x.f2 ≠ 0 ∧ -1099511627776 ≤ x.f2 ∧ x.f2 ≤ 1099511627776 := fun x hx => by
  obtain ⟨h1, h2, h3⟩ := setOk_canon h
  have := h2 x hx
  have := h1.2 x hx
  unfold keyOk at *
  omega
end Go.Proofs.YthljcnlmeefcjaaGreat.X

namespace Go.Proofs.YthljcnlmeefcjaaGreat.X
open Go.RowKit Go.Proofs.YthljcnlmeefcjaaGreatW.PrintWords
set_option linter.unusedVariables false
set_option linter.unusedSimpArgs false

end Go.Proofs.YthljcnlmeefcjaaGreat.X

namespace Go.Proofs.YthljcnlmeefcjaaGreat.X
open Go.RowKit Go.Proofs.YthljcnlmeefcjaaGreatW.PrintWords
set_option linter.unusedVariables false
set_option linter.unusedSimpArgs false

end Go.Proofs.YthljcnlmeefcjaaGreat.X

