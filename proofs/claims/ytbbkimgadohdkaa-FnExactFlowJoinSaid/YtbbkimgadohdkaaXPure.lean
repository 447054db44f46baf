/- What the functions compute, in plain Lean: times, rows, items, spines, plans. Conditions: none. -/
import Derived.RowKit
namespace Go.Proofs.Ytbbkimgadohdkaa.X
open Go.RowKit

/-- a time -/
structure Tm where
  f0 : Int
  f1 : Int
/-- a row: key, value, time, difference -/
structure Rw where
  f0 : Int
  f1 : Int
  f2 : Tm
  f3 : Int
/-- an item: key, value, count -/
structure It where
  f0 : Int
  f1 : Int
  f2 : Int
/-- a plan: kind, number, parts -/
structure Pl where
  f0 : Int
  f1 : Int
  f2 : List Pl

theorem Tm.ext' {s t : Tm} (h1 : s.f0 = t.f0) (h2 : s.f1 = t.f1) : s = t := by cases s; cases t; simp_all
theorem Rw.ext' {s t : Rw} (h1 : s.f0 = t.f0) (h2 : s.f1 = t.f1) (h3 : s.f2 = t.f2) (h4 : s.f3 = t.f3) : s = t := by cases s; cases t; simp_all
theorem It.ext' {s t : It} (h1 : s.f0 = t.f0) (h2 : s.f1 = t.f1) (h4 : s.f2 = t.f2) : s = t := by cases s; cases t; simp_all
instance : DecidableEq Tm := fun s t => if h : s.f0 = t.f0 ∧ s.f1 = t.f1 then isTrue (Tm.ext' h.1 h.2) else isFalse (fun e => h ⟨by rw [e], by rw [e]⟩)
instance : DecidableEq Rw := fun s t => if h : s.f0 = t.f0 ∧ s.f1 = t.f1 ∧ s.f2 = t.f2 ∧ s.f3 = t.f3 then isTrue (Rw.ext' h.1 h.2.1 h.2.2.1 h.2.2.2) else isFalse (fun e => h ⟨by rw [e], by rw [e], by rw [e], by rw [e]⟩)
instance : DecidableEq It := fun s t => if h : s.f0 = t.f0 ∧ s.f1 = t.f1 ∧ s.f2 = t.f2 then isTrue (It.ext' h.1 h.2.1 h.2.2) else isFalse (fun e => h ⟨by rw [e], by rw [e], by rw [e]⟩)
instance : Inhabited Tm := ⟨⟨0, 0⟩⟩
instance : Inhabited Rw := ⟨⟨0, 0, ⟨0, 0⟩, 0⟩⟩
instance : Inhabited It := ⟨⟨0, 0, 0⟩⟩

/-! times -/
def tOk (t : Tm) : Bool := decide (0 ≤ t.f0) && decide (t.f0 ≤ 7) && decide (0 ≤ t.f1) && decide (t.f1 ≤ 7)
def below (s t : Tm) : Bool := decide (s.f0 ≤ t.f0) && decide (s.f1 ≤ t.f1)
def tLess (s t : Tm) : Bool := tOk s && tOk t && below s t
def tmax (x y : Int) : Int := if x < y then y else x
def tmin (x y : Int) : Int := if y < x then y else x
def tJoin (s t : Tm) : Tm := if tOk s && tOk t then ⟨tmax s.f0 t.f0, tmax s.f1 t.f1⟩ else ⟨0, 0⟩
def tMeet (s t : Tm) : Tm := if tOk s && tOk t then ⟨tmin s.f0 t.f0, tmin s.f1 t.f1⟩ else ⟨0, 0⟩
/-- two times of a front, side by side -/
def step2 (p t : Tm) : Bool := decide (p.f0 < t.f0) && decide (t.f1 < p.f1)
def frontGo (p : Tm) : List Tm → Bool
  | [] => true
  | t :: f => tOk t && step2 p t && frontGo t f
def frontOk : List Tm → Bool
  | [] => true
  | t :: f => tOk t && frontGo t f
def beyond (f : List Tm) (t : Tm) : Bool := f.any fun s => below s t
def covers (f : List Tm) (t : Tm) : Bool := frontOk f && f.any fun s => tLess s t
def moveGo (t : Tm) (o : Tm) : List Tm → Tm
  | [] => o
  | s :: f => moveGo t (tMeet o (tJoin s t)) f
/-- impl.moved: its fold goes over all of f -/
def moved (f : List Tm) (t : Tm) : Tm := match f with | [] => t | s :: r => moveGo t (tJoin s t) (s :: r)
def frontMove (f : List Tm) (t : Tm) : Tm := if frontOk f && tOk t then (match f with | [] => t | s :: r => moveGo t (tJoin s t) r) else ⟨0, 0⟩
def allOk (l : List Tm) : Bool := l.all tOk

/-! rows -/
def rowOk (r : Rw) : Bool := decide (0 ≤ r.f0) && decide (r.f0 < 4) && decide (0 ≤ r.f1) && decide (r.f1 < 100) && tOk r.f2 && decide (-99999 ≤ r.f3) && decide (r.f3 ≤ 99999)
def rowsOk (l : List Rw) : Bool := l.all rowOk && decide (l.length ≤ 400)
/-- spec.l2Comp -/
def comp (a b : Rw) : Int := if a.f0 < b.f0 then -1 else if a.f0 > b.f0 then 1 else if a.f1 < b.f1 then -1 else if a.f1 > b.f1 then 1 else if a.f2.f0 < b.f2.f0 then -1 else if a.f2.f0 > b.f2.f0 then 1 else if a.f2.f1 < b.f2.f1 then -1 else if a.f2.f1 > b.f2.f1 then 1 else 0
def ahead (s t : Tm) : Bool := decide (s.f0 < t.f0) || (decide (s.f0 = t.f0) && decide (s.f1 < t.f1))
def rowAhead (x y : Rw) : Bool := if x.f0 ≠ y.f0 then decide (x.f0 < y.f0) else if x.f1 ≠ y.f1 then decide (x.f1 < y.f1) else ahead x.f2 y.f2
def ascGo (p : Rw) : List Rw → Bool
  | [] => true
  | r :: l => decide (r.f3 ≠ 0) && rowAhead p r && ascGo r l
/-- no row of nothing; each ahead of the next -/
def asc : List Rw → Bool
  | [] => true
  | r :: l => decide (r.f3 ≠ 0) && ascGo r l
def batchOk (l : List Rw) : Bool := asc l && rowsOk l
/-- spec.l2Put -/
def put (r : Rw) : List Rw → List Rw
  | [] => [r]
  | x :: xs => if 0 < comp x r then r :: x :: xs else if comp x r = 0 then { r with f3 := wrap64 (r.f3 + x.f3) } :: xs else x :: put r xs
def putAll (s : List Rw) : List Rw → List Rw
  | [] => s
  | r :: l => putAll (put r s) l
def nonZero (l : List Rw) : List Rw := l.filter fun r => decide (r.f3 ≠ 0)
/-- spec.l2Sum: rows as a batch -/
def sum (l : List Rw) : List Rw := nonZero (putAll [] l)
def fit (l : List Rw) : List Rw := if batchOk l then l else []
def batchOf (l : List Rw) : List Rw := if rowsOk l then fit (sum l) else []
def batchBoth (a b : List Rw) : List Rw := if rowsOk a && rowsOk b then fit (sum (a ++ b)) else []
def neg (r : Rw) : Rw := { r with f3 := wrap64 (-r.f3) }
def batchLess (a : List Rw) : List Rw := if rowsOk a then fit (sum (a.map neg)) else []
def mv (f : List Tm) (r : Rw) : Rw := { r with f2 := moved f r.f2 }
def batchMove (a : List Rw) (f : List Tm) : List Rw := if rowsOk a && frontOk f then fit (sum (a.map (mv f))) else []

/-! items -/
def rowOf (x : It) : Rw := ⟨x.f0, x.f1, ⟨0, 0⟩, x.f2⟩
def itemOf (r : Rw) : It := ⟨r.f0, r.f1, r.f3⟩
/-- spec.l2Items, impl.gathered -/
def items (l : List It) : List It := (sum (l.map rowOf)).map itemOf
def presentOf (l : List Rw) (t : Tm) : List It := (l.filter fun r => below r.f2 t).map itemOf
def present (l : List Rw) (t : Tm) : List It := items (presentOf l t)
def batchAt (l : List Rw) (t : Tm) : List It := if rowsOk l && tOk t then present l t else []

/-! spines -/
def many : List (List Rw) → Nat
  | [] => 0
  | l :: ls => l.length + many ls
def spineOk (ls : List (List Rw)) (f : List Tm) : Bool := ls.all batchOk && decide (ls.length ≤ 6) && decide (many ls ≤ 400) && frontOk f

end Go.Proofs.Ytbbkimgadohdkaa.X
