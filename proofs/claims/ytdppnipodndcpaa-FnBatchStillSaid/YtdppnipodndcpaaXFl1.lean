/- The walks of the changes that are mapped or filtered. Conditions: none. -/
import Derived.Test.YtdppnipodndcpaaXBt1
namespace Go.Proofs.Ytdppnipodndcpaa.X
open Go.RowKit Go.Proofs.YtdppnipodndcpaaW.PrintWords
set_option linter.unusedVariables false
set_option linter.unusedSimpArgs false

def eachR (how : Int) (r : Rw) : List Rw := match eachKV r.f0 r.f1 how with | some (a, b) => [⟨a, b, r.f2, r.f3⟩] | none => []
theorem eachR_3 {r : Rw} {how : Int} (h0 : 1 ≤ how) (h1 : how ≤ 7) : eachR how r = if (each3 r.f0 r.f1 how).2.2 = true then [⟨(each3 r.f0 r.f1 how).1, (each3 r.f0 r.f1 how).2.1, r.f2, r.f3⟩] else [] := by
  unfold eachR; rw [each3_kv h0 h1]
  cases (each3 r.f0 r.f1 how).2.2 <;> simp
theorem eachR_len (how : Int) (l : List Rw) : (l.flatMap (eachR how)).length ≤ l.length := by
  have := len_flatMap (c := 1) (s := l) (g := eachR how) (fun r _ => by unfold eachR; cases eachKV r.f0 r.f1 how with | none => simp | some p => obtain ⟨a, b⟩ := p; simp)
  omega
theorem eachR_take (how : Int) (l : List Rw) (k : Nat) : ((l.take k).flatMap (eachR how)).length ≤ k := Nat.le_trans (eachR_len how _) (by rw [List.length_take]; omega)
/-- a mapped row is a row -/
theorem eachR_ok {how : Int} {l : List Rw} (h : ∀ r ∈ l, rowOk r = true) : ∀ r ∈ l.flatMap (eachR how), rowOk r = true := fun y hy => by
  obtain ⟨r, hr, hy⟩ := List.mem_flatMap.1 hy
  have hk := rowOk_in (h r hr)
  unfold eachR at hy
  cases he : eachKV r.f0 r.f1 how with
  | none => rw [he] at hy; cases hy
  | some p =>
    obtain ⟨a, b⟩ := p
    rw [he] at hy
    rw [List.mem_singleton.1 hy]
    have := eachKV_ok hk.1.1 hk.1.2 hk.2.1.1 hk.2.1.2 he
    simp only [rowOk, tOk, Bool.and_eq_true, decide_eq_true_eq]; omega
def flowEach (l : List Rw) (how : Int) : List Rw := if rowsOk l && decide (1 ≤ how) && decide (how ≤ 7) then fit (sum (l.flatMap (eachR how))) else []
end Go.Proofs.Ytdppnipodndcpaa.X
