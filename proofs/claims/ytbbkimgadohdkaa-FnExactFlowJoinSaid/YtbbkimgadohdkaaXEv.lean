/- Functions with a number of rounds: that one answers r from some round on. Conditions: none. -/
import Derived.Test.YtbbkimgadohdkaaXBase
import Derived.Laws.BitsLemmas
namespace Go.Proofs.Ytbbkimgadohdkaa.X
open Go.RowKit

/-- from some round on it answers r -/
def Ev {α : Type} (f : Nat → Option α) (r : α) : Prop := ∃ K, ∀ k, K ≤ k → f k = some r
theorem Ev.bind {α β : Type} {f : Nat → Option α} {a : α} {g : Nat → α → Option β} {b : β} (h : Ev f a) (h2 : Ev (fun k => g k a) b) : Ev (fun k => (f k).bind (g k)) b := by
  obtain ⟨K, h⟩ := h
  obtain ⟨L, h2⟩ := h2
  refine ⟨max K L, fun k hk => ?_⟩
  show (f k).bind (g k) = some b
  rw [h k (by omega)]
  exact h2 k (by omega)
theorem Ev.pure {α : Type} (a : α) : Ev (fun _ => some a) a := ⟨0, fun _ _ => rfl⟩
theorem Ev.all {α : Type} {f : Nat → Option α} {a : α} (h : ∀ k, f k = some a) : Ev f a := ⟨0, fun k _ => h k⟩
theorem Ev.succ {α : Type} {f : Nat → Option α} {a : α} (h : Ev (fun k => f (k + 1)) a) : Ev f a := by
  obtain ⟨K, h⟩ := h
  refine ⟨K + 1, fun k hk => ?_⟩
  obtain ⟨j, rfl⟩ : ∃ j, k = j + 1 := ⟨k - 1, by omega⟩
  exact h j (by omega)
theorem Ev.of {α : Type} {f g : Nat → Option α} {a : α} (h : Ev f a) (e : ∀ k, g k = f k) : Ev g a := by
  obtain ⟨K, h⟩ := h
  exact ⟨K, fun k hk => by rw [e]; exact h k hk⟩
theorem Ev.get {α : Type} {f : Nat → Option α} {a : α} (h : Ev f a) : ∃ k, f k = some a := by
  obtain ⟨K, h⟩ := h
  exact ⟨K, h K (Nat.le_refl _)⟩
theorem wsmall {n : Int} (h0 : 0 ≤ n) (h1 : n < 9223372036854775808) : wrap64 n = n := by unfold wrap64; omega
theorem wnext {i m : Nat} (h : i < m) (hm : m ≤ 1152921504606846976) : wrap64 ((i : Int) + 1) = ((i + 1 : Nat) : Int) := by rw [wsmall (by omega) (by omega)]; omega
theorem getD_drop {α : Type} {l : List α} {i : Nat} (h : i < l.length) (z : α) : l.drop i = l.getD i z :: l.drop (i + 1) := by
  rw [List.drop_eq_getElem_cons h]
  simp [List.getD, h]
theorem getD_some {α : Type} {l : List α} {i : Nat} (h : i < l.length) (z : α) : l[i]? = some (l.getD i z) := by
  rw [List.getElem?_eq_getElem h]
  simp [List.getD, h]
theorem wraps_i64 (n : Int) (h0 : 0 ≤ n) (h1 : n < 2 ^ 63) : IntKind.i64.wrap n = n := by rw [IntKind.wrap_i64]; omega
theorem bits_xor_nonneg (n m : Nat) (hn : n < 9223372036854775808) (hm : m < 9223372036854775808) : 0 ≤ Go.bits .xor .i64 (n : Int) (m : Int) := by
  have hn' : n % 2 ^ IntKind.i64.bits = n := Nat.mod_eq_of_lt (by rw [show IntKind.i64.bits = 64 from rfl]; omega)
  have hm' : m % 2 ^ IntKind.i64.bits = m := Nat.mod_eq_of_lt (by rw [show IntKind.i64.bits = 64 from rfl]; omega)
  have hx : n ^^^ m < 2 ^ 63 := Nat.xor_lt_two_pow (by omega) (by omega)
  simp only [bits, BitVec.ofInt_natCast, BitVec.toNat_xor, BitVec.toNat_ofNat, hn', hm']
  rw [wraps_i64 _ (Int.natCast_nonneg _) (by omega)]
  exact Int.natCast_nonneg _
end Go.Proofs.Ytbbkimgadohdkaa.X
