/- Conditions: none. -/
import Derived.Test.YtkdendlgaaimbaaYCBs
import Derived.WideKeyEntry
import Derived.Maps.RangeWalk
import Derived.Maps.OwnOps
import Derived.Maps.Ext
import Derived.DeepKeys4
import Derived.MapViews
import Derived.Test.YtkdendlgaaimbaaYCSo
import Derived.Test.YtkdendlgaaimbaaYCPl
import Derived.RegionTactic
import Derived.BigRegion
import Derived.Test.YtkdendlgaaimbaaYCSr
namespace Go.Proofs.Ytkdendlgaaimbaa.X
open Go.RowKit Go.WideElems Go.MapKept Go.ChangeMaps Go.ChangeShapes Go.WideShapes Go.Proofs.YtkdendlgaaimbaaW.PrintWords
open Go.WideMaps (KeyLaw)
open Go.Maps (Keyed)
set_option linter.unusedVariables false
set_option linter.unusedSimpArgs false
theorem map_add {H : Type} {P : Program} {w : World} {t k e : TypeId} {q : IntKind} {B n : Nat} {D : DataW H} (L : KeyLaw P k) (ht : P.underlying t = some (.map k e)) (he : P.underlying e = some (.int q)) (hz : ∀ u : World, (zeroValue e).run P u = .ok (.int q 0) u)
  (hown : w.ownsMap P k (plainElem P e) B n D) (hn : n < maxLen) {key : Value} {kl : Lit} (hkey : keyOf P k key = some kl) :
  ∃ (c : Int) (st : Nat) (w2 : World), D.atKey kl (.lit (.int q 0)) = .lit (.int q c) ∧ (Instr.lookup t (.map (some B)) key false).run P w = .ok (.int q c) w ∧
   (Instr.mapEntry t (.map (some B)) key).run P w = .ok (.tuple #[.int q c, goInt st]) w2 ∧ (Instr.lookup t (.map (some B)) key false).run P w2 = .ok (.int q c) w2 ∧
   ∀ n' : Int, (Lit.int q n').wf = true → ∃ w4, (Instr.entryStore t (.map (some B)) (goInt st) (.int q n')).run P w2 = .ok () w4 ∧ w4.ownsMap P k (plainElem (H := H) P e) B (n + 1) (D.put kl (.lit (.int q n'))) ∧ w.grownBy w4 (some B) := by
 have K := Keyed.of_law L
 obtain ⟨c, hlook, hat, hwc⟩ := hown.lookup_int K ht he (hz w) hkey
 have hown0 := hown
 obtain ⟨es, clock, hb, F, hs, rfl⟩ := hown
 obtain ⟨v0, st, es1, clock1, hrun, hv0, hst⟩ := entry_then_store L ht hz hb F hkey
 have hb2 : (setBlock w B (.map es1 clock1)).heap[B]? = some (.map es1 clock1) := heap_setBlock_same hb _
 have hst2 : ∀ n' : Int, (Lit.int q n').wf = true → ∃ w4, (Instr.entryStore t (.map (some B)) (goInt st) (.int q n')).run P (setBlock w B (.map es1 clock1)) = .ok () w4 ∧ w4.ownsMap P k (plainElem (H := H) P e) B (n + 1) ((DataW.map (H := H) ((es.toList.map (rg P k (plainElem (H := H) P e))).foldr DataW.insert [])).put kl (.lit (.int q n'))) ∧ w.grownBy w4 (some B) := by
  intro n' hw'
  obtain ⟨es', clock', h1, h2⟩ := hst _ (.int q n') hb2
  obtain ⟨w', h3, h4, h5⟩ := hown0.update K ht hn hkey (plainElem_int (H := H) he hw')
  rw [h2] at h3
  obtain ⟨_, rfl⟩ := Result.ok.inj h3
  have e4 : setBlock (setBlock w B (.map es1 clock1)) B (.map es' clock') = setBlock w B (.map es' clock') := by simp [setBlock]
  rw [e4] at h1
  exact ⟨_, h1, h4, h5⟩
 have hlk : ∀ (W : World) (es' : Array MapEntry) (cl : Nat), W.heap[B]? = some (.map es' cl) → (∀ x ∈ es'.toList, ∃ l, keyOf P k x.key = some l) → (∀ x ∈ es'.toList, x.key = key → x.val = .int q c) → ((∀ x ∈ es'.toList, x.key ≠ key) → c = 0) → (Instr.lookup t (.map (some B)) key false).run P W = .ok (.int q c) W := by
  intro W es' cl hW hk hval h0
  rcases L.find W hkey es'.toList hk with ⟨a1, a2⟩ | ⟨j, e0, a1, a2, a3⟩
  ·simp [Instr.lookup, run_underlying ht, MapKept.run_getObj_map hW, L.check W _ hkey, a1, hz, Result.andThen, h0 a2]
  ·have := hval e0 (List.mem_of_getElem? a2) a3
   simp [Instr.lookup, run_underlying ht, MapKept.run_getObj_map hW, L.check W _ hkey, a1, Result.andThen, this]
 have hes : (∀ x ∈ es.toList, x.key = key → x.val = .int q c) ∧ ((∀ x ∈ es.toList, x.key ≠ key) → c = 0) := by
  rcases L.find w hkey es.toList F.keys with ⟨a1, a2⟩ | ⟨j, e0, a1, a2, a3⟩
  ·have : (Instr.lookup t (.map (some B)) key false).run P w = .ok (.int q 0) w := by simp [Instr.lookup, run_underlying ht, MapKept.run_getObj_map hb, L.check w _ hkey, a1, hz, Result.andThen]
   rw [hlook] at this
   refine ⟨fun x hx e => absurd e (a2 x hx), fun _ => ?_⟩
   simpa using this
  ·have : (Instr.lookup t (.map (some B)) key false).run P w = .ok e0.val w := by simp [Instr.lookup, run_underlying ht, MapKept.run_getObj_map hb, L.check w _ hkey, a1, Result.andThen]
   rw [hlook] at this
   have hval : e0.val = .int q c := by simpa using this.symm
   have hm0 := List.mem_of_getElem? a2
   have hpw : es.toList.Pairwise (fun x y => x.key ≠ y.key) := by
    refine (List.pairwise_map.1 (F.apart L)).imp_of_mem fun {x y} hx hy hne e => hne ?_
    obtain ⟨y1, h1⟩ := F.reads x hx
    obtain ⟨y2, h2⟩ := F.reads y hy
    have k1 := rd_key h1
    have k2 := rd_key h2
    rw [rg_of h1, rg_of h2]
    rw [e, k2] at k1
    exact (Option.some.inj k1).symm
   refine ⟨fun x hx e => ?_, fun h => absurd a3 (h e0 hm0)⟩
   rw [Go.entry_eq_of_key hpw hx hm0 (e.trans a3.symm)]
   exact hval
 have hv : v0 = .int q c ∧ (Instr.lookup t (.map (some B)) key false).run P (setBlock w B (.map es1 clock1)) = .ok (.int q c) (setBlock w B (.map es1 clock1)) := by
  rcases L.find w hkey es.toList F.keys with ⟨a1, a2⟩ | ⟨j, e0, a1, a2, a3⟩
  ·have hr : (Instr.mapEntry t (.map (some B)) key).run P w = .ok (.tuple #[.int q 0, goInt clock]) (setBlock w B (.map (es.push ⟨key, .int q 0, clock⟩) (clock + 1))) := by
    simp [Instr.mapEntry, run_underlying ht, MapKept.run_getObj_map hb, L.check w false hkey, a1, hz, MapKept.run_setObj_map _ hb, Result.andThen, setBlock]
   rw [hrun] at hr
   injection hr with hr1 hr2
   have hes1 : es1 = es.push ⟨key, .int q 0, clock⟩ := by
    have := congrArg (fun W : World => W.heap[B]?) hr2
    simp only [hb2, heap_setBlock_same hb] at this
    injection this with this
    injection this
   have hv0' : v0 = .int q 0 := by
    injection hr1 with hr1
    have := congrArg (fun l : Array Value => l[0]?) hr1
    simpa using this
   have hc0 := hes.2 a2
   refine ⟨by rw [hv0', hc0], hlk _ es1 clock1 hb2 ?_ ?_ ?_⟩
   ·intro x hx
    rw [hes1, Array.toList_push] at hx
    rcases List.mem_append.1 hx with hx | hx
    ·exact F.keys x hx
    ·rw [List.mem_singleton.1 hx]; exact ⟨kl, hkey⟩
   ·intro x hx e
    rw [hes1, Array.toList_push] at hx
    rcases List.mem_append.1 hx with hx | hx
    ·exact absurd e (a2 x hx)
    ·rw [List.mem_singleton.1 hx, hc0]
   ·intro h
    exact absurd rfl (h ⟨key, .int q 0, clock⟩ (by rw [hes1, Array.toList_push]; simp))
  ·have hj : es[j]? = some e0 := by simpa using a2
   have hsame : es.modify j (fun e => { e with key := key }) = es := by
    apply Array.ext'
    rw [Array.toList_modify, modify_eq_set _ _ _ _ a2]
    have : ({ e0 with key := key } : MapEntry) = e0 := by rw [← a3]
    rw [this]
    exact set_self _ _ _ a2
   have hr : (Instr.mapEntry t (.map (some B)) key).run P w = .ok (.tuple #[e0.val, goInt e0.born]) (setBlock w B (.map es clock)) := by
    simp [Instr.mapEntry, run_underlying ht, MapKept.run_getObj_map hb, L.check w false hkey, a1, hj, a3, L.stays w hkey, hsame, MapKept.run_setObj_map _ hb, Result.andThen, setBlock]
   rw [hrun] at hr
   injection hr with hr1 hr2
   have hes1 : es1 = es := by
    have := congrArg (fun W : World => W.heap[B]?) hr2
    simp only [hb2, heap_setBlock_same hb] at this
    injection this with this
    injection this
   have hv0' : v0 = e0.val := by
    injection hr1 with hr1
    have := congrArg (fun l : Array Value => l[0]?) hr1
    simpa using this
   subst hes1
   exact ⟨by rw [hv0']; exact hes.1 e0 (List.mem_of_getElem? a2) a3, hlk _ es1 clock1 hb2 F.keys hes.1 hes.2⟩
 obtain ⟨rfl, hl2⟩ := hv
 exact ⟨c, st, _, hat, hlook, hrun, hl2, hst2⟩
theorem laidOut : laidOutB Try.prog = true := by kernel_rfl
set_option maxRecDepth 100000 in
theorem typesPos : ∃ m, Try.prog.types.size = m + 1 := ⟨Try.prog.types.size - 1, by kernel_rfl⟩
set_option maxRecDepth 100000 in
theorem keyLits_int {d : Nat} {cs : List Value} {ls : List Lit} (h : Try.prog.keyLits (d + 1) 3 cs = some ls) : ∃ n, cs = [.int .i64 n] ∧ ls = [.int .i64 n] ∧ (Lit.int .i64 n).wf = true := by
 unfold Program.keyLits at h
 rw [Try.underlying3] at h
 split at h <;> simp_all
set_option maxRecDepth 100000 in
theorem keyLits_int_mk {d : Nat} {n : Int} (h : (Lit.int .i64 n).wf = true) : Try.prog.keyLits (d + 1) 3 [.int .i64 n] = some [.int .i64 n] := by
 unfold Program.keyLits
 rw [Try.underlying3]
 simp [h]
set_option maxRecDepth 100000 in
theorem lawIt : KeyLaw Try.prog 118 := deep_law_laid laidOut (m := 2) (by omega) (of_decide_eq_true (by kernel_rfl)) (by kernel_rfl) (by rw [Try.underlying118])
def litIt (a b c : Int) : Lit := .string (keyBytes [.int .i64 a, .int .i64 b, .int .i64 c])
theorem cellsItI : Try.prog.cellsOf 118 = 3 := by kernel_rfl
theorem cellsInt : Try.prog.cellsOf 3 = 1 := by kernel_rfl
set_option maxRecDepth 100000 in
theorem keyLitsIt {m : Nat} {a b c : Int} (ha : (Lit.int .i64 a).wf = true) (hb : (Lit.int .i64 b).wf = true) (hc : (Lit.int .i64 c).wf = true) : Try.prog.keyLits (m + 1 + 1) 118 [.int .i64 a, .int .i64 b, .int .i64 c] = some [.int .i64 a, .int .i64 b, .int .i64 c] := by
 unfold Program.keyLits
 rw [Try.underlying118]
 simp [cellsItI, cellsInt, keyLits_int_mk ha, keyLits_int_mk hb, keyLits_int_mk hc]
set_option maxRecDepth 100000 in
theorem keyIt {a b c : Int} (ha : (Lit.int .i64 a).wf = true) (hb : (Lit.int .i64 b).wf = true) (hc : (Lit.int .i64 c).wf = true) : keyOf Try.prog 118 (.agg #[.int .i64 a, .int .i64 b, .int .i64 c]) = some (litIt a b c) := by
 have hk : Try.prog.keyType 118 = true := by kernel_rfl
 have hf : (Value.agg #[.int .i64 a, .int .i64 b, .int .i64 c]).formed Try.prog 118 = true := by simp [Value.formed, Try.underlying118, cellsItI]
 obtain ⟨m, hm⟩ := typesPos
 have hl := keyLitsIt (m := m) ha hb hc
 rw [← hm] at hl
 unfold keyOf
 rw [Try.underlying118]
 simp only [hk, hf, Bool.and_self, if_true]
 rw [show (Value.agg #[.int .i64 a, .int .i64 b, .int .i64 c]).cells.toList = [.int .i64 a, .int .i64 b, .int .i64 c] from rfl, hl]
 rfl
set_option maxRecDepth 100000 in
theorem keyIt_inv {v : Value} {kl : Lit} (h : keyOf Try.prog 118 v = some kl) : ∃ x : It, v = .agg #[.int .i64 x.f0, .int .i64 x.f1, .int .i64 x.f2] ∧ kl = litIt x.f0 x.f1 x.f2 ∧ (Lit.int .i64 x.f0).wf = true ∧ (Lit.int .i64 x.f1).wf = true ∧ (Lit.int .i64 x.f2).wf = true := by
 have h0 := h
 unfold keyOf at h
 rw [Try.underlying118] at h
 simp only at h
 split at h
 ·rename_i hc
  obtain ⟨m, hm⟩ := typesPos
  obtain ⟨ls, hl, rfl⟩ := Option.map_eq_some_iff.1 h
  have hf : v.formed Try.prog 118 = true := by simp only [Bool.and_eq_true] at hc; exact hc.2
  obtain ⟨cs, rfl⟩ : ∃ cs, v = .agg cs := by
   cases v <;> simp [Value.formed, Try.underlying118] at hf
   exact ⟨_, rfl⟩
  rw [hm] at hl
  unfold Program.keyLits at hl
  rw [Try.underlying118] at hl
  obtain ⟨cl⟩ := cs
  simp [Value.cells, cellsItI, cellsInt] at hl
  obtain ⟨hlen, hl⟩ := hl
  match cl, hlen with
  | [c0, c1, c2], _ =>
   simp at hl
   cases e0 : Try.prog.keyLits (m + 1) 3 [c0] with
   | none => rw [e0] at hl; simp at hl
   | some l0 =>
    cases e1 : Try.prog.keyLits (m + 1) 3 [c1] with
    | none => rw [e0, e1] at hl; simp at hl
    | some l1 =>
     cases e2 : Try.prog.keyLits (m + 1) 3 [c2] with
     | none => rw [e0, e1, e2] at hl; simp at hl
     | some l2 =>
      rw [e0, e1, e2] at hl
      obtain ⟨n0, g0, rfl, w0⟩ := keyLits_int e0
      obtain ⟨n1, g1, rfl, w1⟩ := keyLits_int e1
      obtain ⟨n2, g2, rfl, w2⟩ := keyLits_int e2
      simp at hl g0 g1 g2
      subst g0 g1 g2 hl
      exact ⟨⟨n0, n1, n2⟩, rfl, rfl, w0, w1, w2⟩
 ·cases h
end Go.Proofs.Ytkdendlgaaimbaa.X
namespace Go.Proofs.Ytkdendlgaaimbaa.X
open Go.RowKit Go.WideElems Go.MapKept Go.ChangeMaps Go.ChangeShapes Go.WideShapes Go.Proofs.YtkdendlgaaimbaaW.PrintWords
open Go.WideMaps (KeyLaw)
open Go.Maps (Keyed)
set_option linter.unusedVariables false
set_option linter.unusedSimpArgs false
set_option maxRecDepth 100000 in
theorem typesPos2 : ∃ m, Try.prog.types.size = m + 1 + 1 := ⟨Try.prog.types.size - 2, by kernel_rfl⟩
theorem cellsTmI : Try.prog.cellsOf 43 = 2 := by kernel_rfl
theorem cellsIntI : Try.prog.cellsOf 3 = 1 := by kernel_rfl
set_option maxRecDepth 100000 in
theorem keyLitsTm {m : Nat} {a b : Int} (ha : (Lit.int .i64 a).wf = true) (hb : (Lit.int .i64 b).wf = true) : Try.prog.keyLits (m + 1 + 1) 43 [.int .i64 a, .int .i64 b] = some [.int .i64 a, .int .i64 b] := by
 unfold Program.keyLits
 rw [Try.underlying43]
 simp [cellsTmI, cellsIntI, keyLits_int_mk ha, keyLits_int_mk hb]
set_option maxRecDepth 100000 in
theorem keyLitsTm_inv {m : Nat} {cl : List Value} {ls : List Lit} (hl : Try.prog.keyLits (m + 1 + 1) 43 cl = some ls) : ∃ a b, cl = [.int .i64 a, .int .i64 b] ∧ ls = [.int .i64 a, .int .i64 b] ∧ (Lit.int .i64 a).wf = true ∧ (Lit.int .i64 b).wf = true := by
 unfold Program.keyLits at hl
 rw [Try.underlying43] at hl
 simp [cellsTmI, cellsIntI] at hl
 obtain ⟨hlen, hl⟩ := hl
 match cl, hlen with
 | [c0, c1], _ =>
  simp at hl
  cases e0 : Try.prog.keyLits (m + 1) 3 [c0] with
  | none => rw [e0] at hl; simp at hl
  | some l0 =>
   cases e1 : Try.prog.keyLits (m + 1) 3 [c1] with
   | none => rw [e0, e1] at hl; simp at hl
   | some l1 =>
    rw [e0, e1] at hl
    obtain ⟨n0, g0, rfl, w0⟩ := keyLits_int e0
    obtain ⟨n1, g1, rfl, w1⟩ := keyLits_int e1
    simp at hl g0 g1
    subst g0 g1 hl
    exact ⟨n0, n1, rfl, rfl, w0, w1⟩
theorem cellsRwI : Try.prog.cellsOf 102 = 5 := by kernel_rfl
set_option maxRecDepth 100000 in
theorem lawRw : KeyLaw Try.prog 102 := deep_law_laid laidOut (m := 3) (by omega) (of_decide_eq_true (by kernel_rfl)) (by kernel_rfl) (by rw [Try.underlying102])
def litRw (a b c d e : Int) : Lit := .string (keyBytes [.int .i64 a, .int .i64 b, .int .i64 c, .int .i64 d, .int .i64 e])
set_option maxRecDepth 100000 in
theorem keyLitsRw {m : Nat} {a b c d e : Int} (ha : (Lit.int .i64 a).wf = true) (hb : (Lit.int .i64 b).wf = true) (hc : (Lit.int .i64 c).wf = true) (hd : (Lit.int .i64 d).wf = true) (he : (Lit.int .i64 e).wf = true) :
  Try.prog.keyLits (m + 1 + 1 + 1) 102 [.int .i64 a, .int .i64 b, .int .i64 c, .int .i64 d, .int .i64 e] = some [.int .i64 a, .int .i64 b, .int .i64 c, .int .i64 d, .int .i64 e] := by
 unfold Program.keyLits
 rw [Try.underlying102]
 simp [cellsRwI, cellsTmI, cellsIntI, keyLits_int_mk ha, keyLits_int_mk hb, keyLitsTm hc hd, keyLits_int_mk he]
set_option maxRecDepth 100000 in
theorem keyRw {a b c d e : Int} (ha : (Lit.int .i64 a).wf = true) (hb : (Lit.int .i64 b).wf = true) (hc : (Lit.int .i64 c).wf = true) (hd : (Lit.int .i64 d).wf = true) (he : (Lit.int .i64 e).wf = true) :
  keyOf Try.prog 102 (.agg #[.int .i64 a, .int .i64 b, .int .i64 c, .int .i64 d, .int .i64 e]) = some (litRw a b c d e) := by
 have hk : Try.prog.keyType 102 = true := by kernel_rfl
 have hf : (Value.agg #[.int .i64 a, .int .i64 b, .int .i64 c, .int .i64 d, .int .i64 e]).formed Try.prog 102 = true := by simp [Value.formed, Try.underlying102, cellsRwI]
 obtain ⟨m, hm⟩ := typesPos2
 have hl := keyLitsRw (m := m) ha hb hc hd he
 rw [← hm] at hl
 unfold keyOf
 rw [Try.underlying102]
 simp only [hk, hf, Bool.and_self, if_true]
 rw [show (Value.agg #[.int .i64 a, .int .i64 b, .int .i64 c, .int .i64 d, .int .i64 e]).cells.toList = [.int .i64 a, .int .i64 b, .int .i64 c, .int .i64 d, .int .i64 e] from rfl, hl]
 rfl
set_option maxRecDepth 100000 in
theorem keyRw_inv {v : Value} {kl : Lit} (h : keyOf Try.prog 102 v = some kl) : ∃ x : Rw, v = .agg #[.int .i64 x.f0, .int .i64 x.f1, .int .i64 x.f2.f0, .int .i64 x.f2.f1, .int .i64 x.f3] ∧ kl = litRw x.f0 x.f1 x.f2.f0 x.f2.f1 x.f3 ∧
  (Lit.int .i64 x.f0).wf = true ∧ (Lit.int .i64 x.f1).wf = true ∧ (Lit.int .i64 x.f2.f0).wf = true ∧ (Lit.int .i64 x.f2.f1).wf = true ∧ (Lit.int .i64 x.f3).wf = true := by
 unfold keyOf at h
 rw [Try.underlying102] at h
 simp only at h
 split at h
 ·rename_i hc
  obtain ⟨m, hm⟩ := typesPos2
  obtain ⟨ls, hl, rfl⟩ := Option.map_eq_some_iff.1 h
  have hf : v.formed Try.prog 102 = true := by simp only [Bool.and_eq_true] at hc; exact hc.2
  obtain ⟨cs, rfl⟩ : ∃ cs, v = .agg cs := by
   cases v <;> simp [Value.formed, Try.underlying102] at hf
   exact ⟨_, rfl⟩
  rw [hm] at hl
  unfold Program.keyLits at hl
  rw [Try.underlying102] at hl
  obtain ⟨cl⟩ := cs
  simp [Value.cells, cellsRwI, cellsTmI, cellsIntI] at hl
  obtain ⟨hlen, hl⟩ := hl
  match cl, hlen with
  | [c0, c1, c2, c3, c4], _ =>
   simp at hl
   cases e0 : Try.prog.keyLits (m + 1 + 1) 3 [c0] with
   | none => rw [e0] at hl; simp at hl
   | some l0 =>
    cases e1 : Try.prog.keyLits (m + 1 + 1) 3 [c1] with
    | none => rw [e0, e1] at hl; simp at hl
    | some l1 =>
     cases e2 : Try.prog.keyLits (m + 1 + 1) 43 [c2, c3] with
     | none => rw [e0, e1, e2] at hl; simp at hl
     | some l2 =>
      cases e3 : Try.prog.keyLits (m + 1 + 1) 3 [c4] with
      | none => rw [e0, e1, e2, e3] at hl; simp at hl
      | some l3 =>
       rw [e0, e1, e2, e3] at hl
       obtain ⟨n0, g0, rfl, w0⟩ := keyLits_int e0
       obtain ⟨n1, g1, rfl, w1⟩ := keyLits_int e1
       obtain ⟨n2, n3, g2, rfl, w2, w3⟩ := keyLitsTm_inv e2
       obtain ⟨n4, g4, rfl, w4⟩ := keyLits_int e3
       simp at hl g0 g1 g2 g4
       obtain ⟨g2, g3⟩ := g2
       subst g0 g1 g2 g3 g4 hl
       exact ⟨⟨n0, n1, ⟨n2, n3⟩, n4⟩, rfl, rfl, w0, w1, w2, w3, w4⟩
 ·cases h
end Go.Proofs.Ytkdendlgaaimbaa.X
namespace Go.Proofs.Ytkdendlgaaimbaa.X
open Go.RowKit Go.WideElems Go.MapKept Go.ChangeMaps Go.ChangeShapes Go.WideShapes Go.Proofs.YtkdendlgaaimbaaW.PrintWords
open Go.WideMaps (KeyLaw)
open Go.Maps (Keyed)
set_option linter.unusedVariables false
set_option linter.unusedSimpArgs false
theorem wf0 : wfI 0 := by unfold wfI; decide
theorem litIt_inj {a b a' b' : Int} (ha : wfI a) (hb : wfI b) (ha' : wfI a') (hb' : wfI b') (h : litIt a b 0 = litIt a' b' 0) : a = a' ∧ b = b' := by
 have h1 := keyIt ha hb wf0
 have h2 := keyIt ha' hb' wf0
 rw [h] at h1
 have := (Keyed.of_law lawIt).inj h1 h2
 simp at this
 exact this
theorem keyLit {a b : Int} (ha : wfI a) (hb : wfI b) : WideAt.IsKeyLit (litIt a b 0) := (Keyed.of_law lawIt).key (keyIt ha hb wf0)
structure MapI (l : List It) (D : DataW Unit) : Prop where
 im : Maps.IsMap D
 at_ : ∀ a b, wfI a → wfI b → D.atKey (litIt a b 0) (.lit (.int .i64 0)) = .lit (.int .i64 (cnt l a b))
 has : ∀ a b, wfI a → wfI b → Maps.has D (litIt a b 0) = keyed l a b
 only : ∀ kl, Maps.has D kl = true → ∃ a b, wfI a ∧ wfI b ∧ kl = litIt a b 0
theorem MapI.start : MapI [] (.map []) := ⟨⟨[], rfl⟩, fun _ _ _ _ => rfl, fun _ _ _ _ => rfl, fun _ h => by cases h⟩
theorem MapI.step {l : List It} {D : DataW Unit} (h : MapI l D) {x : It} (h0 : wfI x.f0) (h1 : wfI x.f1) : MapI (l ++ [x]) (D.put (litIt x.f0 x.f1 0) (.lit (.int .i64 (wrap64 (cnt l x.f0 x.f1 + x.f2))))) := by
 refine ⟨?_, fun a b ha hb => ?_, fun a b ha hb => ?_, fun kl hk => ?_⟩
 ·obtain ⟨es, rfl⟩ := h.im; exact ⟨_, rfl⟩
 ·rw [cnt_snoc, step3]
  by_cases he : x.f0 = a ∧ x.f1 = b
  ·obtain ⟨rfl, rfl⟩ := he
   rw [Maps.atKey_put_same h.im (keyLit h0 h1), if_pos ⟨rfl, rfl⟩]
  ·rw [Maps.atKey_put_other (fun e => he (litIt_inj h0 h1 ha hb e.symm)), if_neg he, h.at_ a b ha hb]
 ·rw [keyed_snoc]
  by_cases he : x.f0 = a ∧ x.f1 = b
  ·obtain ⟨rfl, rfl⟩ := he
   rw [Maps.has_put_same h.im (keyLit h0 h1)]; simp
  ·rw [Maps.has_put_other (fun e => he (litIt_inj h0 h1 ha hb e.symm)), h.has a b ha hb]
   have : (decide (x.f0 = a) && decide (x.f1 = b)) = false := by
    rw [Bool.and_eq_false_iff, decide_eq_false_iff_not, decide_eq_false_iff_not]; exact Decidable.not_and_iff_or_not.1 he
   rw [this, Bool.or_false]
 ·by_cases he : kl = litIt x.f0 x.f1 0
  ·exact ⟨_, _, h0, h1, he⟩
  ·rw [Maps.has_put_other he] at hk
   exact h.only kl hk
structure Met (l : List It) (D : DataW Unit) (left : Lit → Bool) (ys : List It) : Prop where
 of : ∀ y ∈ ys, wfI y.f0 ∧ wfI y.f1 ∧ y.f2 = cnt l y.f0 y.f1 ∧ y.f2 ≠ 0 ∧ left (litIt y.f0 y.f1 0) = false
 once : ys.Pairwise fun x y => ¬ (x.f0 = y.f0 ∧ x.f1 = y.f1)
 all : ∀ a b, wfI a → wfI b → Maps.has D (litIt a b 0) = true → left (litIt a b 0) = false → cnt l a b ≠ 0 → ⟨a, b, cnt l a b⟩ ∈ ys
 from_ : ∀ kl, left kl = true → Maps.has D kl = true
theorem Met.start (l : List It) (D : DataW Unit) : Met l D (Maps.has D) [] := ⟨fun y hy => (by cases hy), List.Pairwise.nil, fun a b _ _ h1 h2 => (by rw [h1] at h2; cases h2), fun _ h => h⟩
theorem sameKey_lit {a b a' b' : Int} (ha : wfI a) (hb : wfI b) (ha' : wfI a') (hb' : wfI b') : (litIt a b 0).sameKey (litIt a' b' 0) = (decide (a = a') && decide (b = b')) := by
 by_cases h : a = a' ∧ b = b'
 ·obtain ⟨rfl, rfl⟩ := h
  rw [WideAt.sameKey_self (keyLit ha hb)]; simp
 ·have h1 : litIt a b 0 ≠ litIt a' b' 0 := fun e => h (litIt_inj ha hb ha' hb' e)
  have h2 : (decide (a = a') && decide (b = b')) = false := by
   rw [Bool.and_eq_false_iff, decide_eq_false_iff_not, decide_eq_false_iff_not]; exact Decidable.not_and_iff_or_not.1 h
  rw [h2]
  cases hs : (litIt a b 0).sameKey (litIt a' b' 0) with
  | false => rfl
  | true => exact absurd (by simpa [litIt, Lit.sameKey] using hs) (fun e => h1 (by simp [litIt]; exact e))
theorem Met.step {l : List It} {D : DataW Unit} {left : Lit → Bool} {ys : List It} (hM : MapI l D) (h : Met l D left ys) {a b : Int} (ha : wfI a) (hb : wfI b) (hl : left (litIt a b 0) = true) :
  Met l D (fun z => left z && !z.sameKey (litIt a b 0)) (if cnt l a b ≠ 0 then ys ++ [⟨a, b, cnt l a b⟩] else ys) := by
 have hnew : ∀ y ∈ ys, ¬ (y.f0 = a ∧ y.f1 = b) := fun y hy e => by
  obtain ⟨_, _, _, _, h5⟩ := h.of y hy
  rw [e.1, e.2, hl] at h5
  cases h5
 have hold : ∀ y ∈ ys, (left (litIt y.f0 y.f1 0) && !(litIt y.f0 y.f1 0).sameKey (litIt a b 0)) = false := fun y hy => by rw [(h.of y hy).2.2.2.2]; rfl
 refine ⟨fun y hy => ?_, ?_, fun a' b' ha' hb' h1 h2 h3 => ?_, fun kl hk => ?_⟩
 ·by_cases h0 : cnt l a b ≠ 0
  ·rw [if_pos h0] at hy
   rcases List.mem_append.1 hy with hy | hy
   ·obtain ⟨g1, g2, g3, g4, _⟩ := h.of y hy
    exact ⟨g1, g2, g3, g4, hold y hy⟩
   ·rw [List.mem_singleton.1 hy]
    exact ⟨ha, hb, rfl, h0, by rw [sameKey_lit ha hb ha hb]; simp⟩
  ·rw [if_neg h0] at hy
   obtain ⟨g1, g2, g3, g4, _⟩ := h.of y hy
   exact ⟨g1, g2, g3, g4, hold y hy⟩
 ·split
  ·refine List.pairwise_append.2 ⟨h.once, List.pairwise_singleton _ _, fun x hx y hy => ?_⟩
   rw [List.mem_singleton.1 hy]
   exact hnew x hx
  ·exact h.once
 ·replace h2 : (left (litIt a' b' 0) && !(litIt a' b' 0).sameKey (litIt a b 0)) = false := h2
  rw [sameKey_lit ha' hb' ha hb] at h2
  by_cases he : a' = a ∧ b' = b
  ·obtain ⟨rfl, rfl⟩ := he
   rw [if_pos h3]
   exact List.mem_append.2 (.inr (List.mem_singleton.2 rfl))
  ·have e1 : (decide (a' = a) && decide (b' = b)) = false := by
    rw [Bool.and_eq_false_iff, decide_eq_false_iff_not, decide_eq_false_iff_not]; exact Decidable.not_and_iff_or_not.1 he
   rw [e1, Bool.not_false, Bool.and_true] at h2
   have := h.all a' b' ha' hb' h1 h2 h3
   split
   ·exact List.mem_append.2 (.inl this)
   ·exact this
 ·simp only [Bool.and_eq_true] at hk
  exact h.from_ kl hk.1
def Gathered (l ys : List It) : Prop := (∀ y ∈ ys, wfI y.f0 ∧ wfI y.f1 ∧ y.f2 = cnt l y.f0 y.f1 ∧ y.f2 ≠ 0) ∧ (ys.Pairwise fun x y => ¬ (x.f0 = y.f0 ∧ x.f1 = y.f1)) ∧ ∀ a b, wfI a → wfI b → keyed l a b = true → cnt l a b ≠ 0 → ⟨a, b, cnt l a b⟩ ∈ ys
theorem Met.done {l : List It} {D : DataW Unit} {left : Lit → Bool} {ys : List It} (hM : MapI l D) (h : Met l D left ys) (h0 : ∀ kl, left kl = false) : Gathered l ys :=
 ⟨fun y hy => ⟨(h.of y hy).1, (h.of y hy).2.1, (h.of y hy).2.2.1, (h.of y hy).2.2.2.1⟩, h.once, fun a b ha hb hk hc => h.all a b ha hb (by rw [hM.has a b ha hb]; exact hk) (h0 _) hc⟩
theorem Gathered.perm {l ys zs : List It} (h : Gathered l ys) (hp : zs.Perm ys) : Gathered l zs :=
 ⟨fun y hy => h.1 y (hp.mem_iff.1 hy), (hp.symm.pairwise_iff (fun {x y} hxy e => hxy ⟨e.1.symm, e.2.symm⟩)).1 h.2.1, fun a b ha hb hk hc => hp.mem_iff.2 (h.2.2 a b ha hb hk hc)⟩
theorem zeroI (w : World) : (zeroValue 3).run Try.prog w = .ok (.int .i64 0) w := by kernel_rfl
set_option maxRecDepth 100000 in
set_option maxHeartbeats 2000000 in
theorem impl_gathered0 (v : Value) (l : List It) (w : World) (h : Sl kIt w v l) (hwf : ∀ x ∈ l, wfI x.f0 ∧ wfI x.f1) (hl : l.length < 1099511627776) : Calls Try.prog 141 #[v] w fun e w' => ∃ u ys, e = .returned u ∧ kIt.R 118 w' w.heap.size okT u ys ∧ Below w.heap.size w w' ∧ Gathered l ys ∧ ys.Pairwise (fun a b => ltIt b a = false) := by
 have hmm := @run_makeMap Try.prog
 obtain ⟨A, c_, rfl, HC, hr⟩ := h
 have hm := Kd.C_max hr
 have HR := Aside0.mk hr
 clear hr
 have HB := Aside0.mk (Below.refl w.heap.size w)
 go_enter Try.func141, Try.ntmps141
 go_wp2
 go_loopw [12] (fun i wr => ∃ k : Nat, k ≤ l.length ∧ i = .int .i64 k ∧ Aside0 (∃ D, wr.ownsMap Try.prog 118 (plainElem (H := Unit) Try.prog 3) w.heap.size k D ∧ MapI (l.take k) D) ∧ Aside0 (Below w.heap.size w wr)) (fun i _ => l.length - (intOf i).toNat)
 case atStart => exact ⟨0, Nat.zero_le _, rfl, ⟨_, World.ownsMap_made _ _ _ _, MapI.start⟩, ⟨(Below.refl _ _).alloc (Nat.le_refl _) _⟩⟩
 case round =>
  obtain ⟨k, hk, rfl, HM, HB⟩ := hrel
  by_cases hlt : k < l.length
  ·obtain ⟨ad, x, e, HX, h0, h1, h2⟩ := rdIt HR.out HB.out hlt
   cases e
   obtain ⟨D, hown, hMI⟩ := HM.out
   have hx := hwf x (List.mem_of_getElem? HX.out)
   go_wp2
   refine name_world fun W hW => ?_
   have b0 : W.cell? ⟨wr.heap.size, 0, none⟩ = some (.int .i64 x.f0) := by rw [hW]; exact blk_cell (blk_new _ _) 0
   have b1 : W.cell? ⟨wr.heap.size, 1, none⟩ = some (.int .i64 x.f1) := by rw [hW]; exact blk_cell (blk_new _ _) 1
   have b2 : W.cell? ⟨wr.heap.size, 2, none⟩ = some (.int .i64 x.f2) := by rw [hW]; exact blk_cell (blk_new _ _) 2
   have hB1 : w.heap.size < wr.heap.size := hown.lt
   have hownW : W.drew.ownsMap Try.prog 118 (plainElem (H := Unit) Try.prog 3) w.heap.size k D := by
    rw [hW]
    exact hown.alloc _
   have HBW : Below w.heap.size w W.drew := by rw [hW]; exact below_drew (below_alloc HB.out _)
   obtain ⟨c, st, w2, hat, hlook, hent, hlook2, hsto⟩ := map_add lawIt Try.underlying179 Try.underlying3 zeroI hownW (by unfold maxLen; omega) (keyIt hx.1 hx.2 wf0)
   rw [hMI.at_ _ _ hx.1 hx.2] at hat
   have hc : cnt (l.take k) x.f0 x.f1 = c := by simpa using hat
   obtain ⟨w4, hst, hown4, hgr⟩ := hsto (wrap64 (c + x.f2)) (wrap64_wf _)
   clear hsto hat hown hownW
   have hst' : (Instr.entryStore 179 (.map (some w.heap.size)) (.int .i64 (st : Int)) (.int .i64 (wrap64 (c + x.f2)))).run Try.prog w2 = .ok () w4 := hst
   have hent' : (Instr.mapEntry 179 (.map (some w.heap.size)) (.agg #[.int .i64 x.f0, .int .i64 x.f1, .int .i64 0])).run Try.prog W.drew = .ok (.tuple #[.int .i64 c, .int .i64 (st : Int)]) w2 := hent
   clear hst hent
   have HM2 : Aside0 (∃ D, w4.ownsMap Try.prog 118 (plainElem (H := Unit) Try.prog 3) w.heap.size (k + 1) D ∧ MapI (l.take (k + 1)) D) := ⟨_, hown4, by rw [take_snoc HX.out, ← hc]; exact hMI.step hx.1 hx.2⟩
   have HB4 : Aside0 (Below w.heap.size w w4) := ⟨HBW.grown hgr HBW.size (fun j hj => by cases hj; exact Nat.le_refl _)⟩
   clear hown4 hgr HBW hMI hW
   go_region
   all_goals go_wp2
   all_goals go_roundw
   case rel => exact ⟨k + 1, by omega, by go_num, HM2, HB4⟩
   case measure => simp [intOf]; omega
  ·obtain rfl : k = l.length := by omega
   obtain ⟨D, hown, hMI⟩ := HM.out
   rw [List.take_length] at hMI
   clear HM hmm
   have hB1 : w.heap.size < wr.heap.size := hown.lt
   have hsize : Maps.size D ≤ l.length := by
    obtain ⟨es, _, _, _, hs, rfl⟩ := hown
    show (((es.toList.map (rg Try.prog 118 (plainElem (H := Unit) Try.prog 3))).foldr DataW.insert [])).length ≤ l.length
    rw [Go.length_sorted]; simpa using hs
   go_wp2_with (first | (at_range; refine wpList_range_own _ rfl _ 179 rfl 118 3 (Keyed.of_law lawIt) Try.underlying179 _ w.heap.size l.length D rfl ((hown.alloc _).alloc _) ?_; intro w0 hrg0 hg0 hs0) | go_in)
   go_frame
   obtain ⟨r, hr⟩ : ∃ r, r = wr.heap.size + 2 := ⟨_, rfl⟩
   obtain ⟨ob, hob⟩ : ∃ ob, ob = wr.heap.size + 1 := ⟨_, rfl⟩
   have er : ((wr.alloc (Obj.cells #[] 118)).alloc (Obj.cells #[Value.slice (some ⟨wr.heap.size, 0, none⟩) 0 0] 46)).heap.size = r := by rw [hr]; simp
   rw [er] at hrg0 ⊢
   rw [← hob]
   have HO : Aside0 (kIt.R 118 w0 w.heap.size (fun q => q ≠ ob ∧ q ≠ w.heap.size ∧ q ≠ r) (.slice (some ⟨wr.heap.size, 0, none⟩) 0 0) []) := by
    have h1 : (wr.alloc (Obj.cells #[] 118)).heap[wr.heap.size]? = some (.cells #[] 118 (0, 0)) := blk_new _ _
    have h2 : w0.heap[wr.heap.size]? = some (.cells #[] 118 (0, 0)) := by
     rw [hg0.block _ (by simp; omega) (by simp)]; exact blk_alloc h1 _
    exact ⟨own_of_cells (d := kIt) (xs := []) vIt (fun _ => rfl) (by decide) (fun _ _ _ x => kIt_M.2 rfl) h2 (by simp) (by simp) (by unfold maxLen; omega) (by omega) ⟨by omega, by omega, by omega⟩ (fun j x hj => by simp at hj)⟩
   have HX0 : Aside0 (w0.heap[ob]? = some (.cells #[.slice (some ⟨wr.heap.size, 0, none⟩) 0 0] 46 (0, 0))) := by
    constructor
    rw [hob, hg0.block _ (by simp) (by simp)]
    exact blk_two _ _ _
   have HB0 : Aside0 (Below w.heap.size w w0) := ⟨(below_alloc (below_alloc HB.out _) _).grown hg0 (by simp; have := HB.out.size; omega) (fun j hj => by cases hj)⟩
   have HR0 := Aside0.mk hrg0
   have hob1 : w.heap.size < ob := by omega
   have hobr : ob ≠ r := by omega
   clear hrg0 hg0 hs0 er hown HB
   have hBr : w.heap.size ≤ r := by omega
   clear hr hob
   generalize hv0 : Value.slice (some ⟨wr.heap.size, 0, none⟩) 0 0 = v0 at HO HX0
   go_loopw [] (fun wq => ∃ (left : Lit → Bool) (cn : Nat) (vv : Value) (ys : List It), ys.length + cn ≤ l.length ∧ Aside0 (wq.ranges Try.prog 118 (plainElem (H := Unit) Try.prog 3) w.heap.size r l.length D left cn) ∧ Aside0 (Met l D left ys) ∧ Aside0 (kIt.R 118 wq w.heap.size (fun q => q ≠ ob ∧ q ≠ w.heap.size ∧ q ≠ r) vv ys) ∧ Aside0 (wq.heap[ob]? = some (.cells #[vv] 46 (0, 0))) ∧ Aside0 (Below w.heap.size w wq)) (fun wq => wq.rangeLeft w.heap.size r)
   case atStart => exact ⟨Maps.has D, Maps.size D, v0, [], by simpa using hsize, HR0, ⟨Met.start l D⟩, HO, HX0, HB0⟩
   case round =>
    obtain ⟨left, cn, vv, ys, hle, HRG, HMet, HO2, HX2, HB2⟩ := hrel
    go_wp2_with (first | (at_next; refine wpList_next_ranges _ rfl _ rfl 118 (Keyed.of_law lawIt) (plainElem (H := Unit) Try.prog 3) (fun x : It => Value.agg #[.int .i64 x.f0, .int .i64 x.f1, .int .i64 x.f2]) (Value.int .i64) (fun key kl hk => by obtain ⟨x, hx, _⟩ := keyIt_inv hk; exact ⟨x, hx⟩) (fun v y hv => by obtain ⟨c, rfl, _⟩ := plainElem_int_inv Try.underlying3 hv; exact ⟨c, rfl⟩) w.heap.size r _ _ _ _ rfl HRG.out ?_ ?_) | go_in)
    ·intro hc0 hl0
     have HG := Aside0.mk (HMet.out.done hMI hl0)
     obtain ⟨A2, c2, rfl, hc2, _⟩ := Kd.R_reads HO2.out
     have hne : ∀ q, (Value.slice A2 ys.length c2).ownBlock = some q → q ≠ ob := fun q hq => (HO2.out.1 q hq).1
     have hbs := Kd.R_base HO2.out
     have hx0 : wr.cell? ⟨ob, 0, none⟩ = some (.slice A2 ys.length c2) := blk_cell HX2.out 0
     have hsort := Aside0.mk (sortIt A2 c2 ob _ _ _ ys wr HO2.out hx0 (blk_lt HX2.out) (fun a ha e => hne a.block (by rw [ha]; rfl) e.symm) (by omega))
     go_wp2_with (go_at_call 133; refine hsort.out.mono ?_; rintro e w' ⟨rfl, zs, hp, hso, hR3, hgr⟩; have hx3 : w'.cell? ⟨ob, 0, none⟩ = some (.slice A2 ys.length c2) := (by have h5 := hgr.block ob (blk_lt HX2.out) (fun e => hne ob e.symm rfl); rw [HX2.out] at h5; exact blk_cell h5 0); have HB3 := Aside0.mk (HB2.out.grown hgr HB2.out.size hbs); have HR3 := Aside0.mk hR3; have HP := Aside0.mk (HG.out.perm hp); have HS := Aside0.mk hso; clear hgr hp hso hR3)
     go_ret
     exact ⟨_, zs, rfl, Kd.R_mono HR3.out (fun _ _ => trivial), HB3.out, HP.out, HS.out⟩
    ·intro x c kl yd yp w2 cn2 hkey hlk hv hat hrg2 hlt hg2 hs2 hen
     obtain ⟨x', ex, rfl, wx0, wx1, wx2⟩ := keyIt_inv hkey
     simp at ex
     obtain rfl : x = x' := It.ext' ex.1 ex.2.1 ex.2.2
     clear ex
     obtain ⟨a, b, wa, wb, ekl⟩ := hMI.only _ (HMet.out.from_ _ hlk)
     have ekey := (Keyed.of_law lawIt).inj hkey (by rw [ekl]; exact keyIt wa wb wf0)
     obtain ⟨x0, x1, x2⟩ := x
     simp at ekey
     obtain ⟨rfl, rfl, rfl⟩ := ekey
     rw [ekl] at hlk hat hrg2
     clear ekl hkey
     obtain ⟨c', ec, hyd, hwc⟩ := plainElem_int_inv Try.underlying3 hv
     have hcc : cnt l x0 x1 = c := by
      have h5 := hat (.lit (.int .i64 0))
      rw [hMI.at_ _ _ wa wb] at h5
      simp at hyd ec
      rw [hyd.1, ← ec] at h5
      simpa using h5
     have HMet2 := Aside0.mk (HMet.out.step hMI wa wb hlk)
     rw [hcc] at HMet2
     clear hv hat hyd hwc ec hs2
     have HO3 := Aside0.mk (Kd.R_grown HO2.out hg2 (fun q hq e => hq.2.2 (Option.some.inj e)))
     have hobl := blk_lt HX2.out
     have HX3 : Aside0 (w2.heap[ob]? = some (.cells #[vv] 46 (0, 0))) := ⟨by rw [hg2.block ob hobl (fun e => hobr (Option.some.inj e)), HX2.out]⟩
     have HB3 := Aside0.mk (HB2.out.grown hg2 HB2.out.size (fun j hj => by cases hj; exact hBr))
     have HRG3 := Aside0.mk hrg2
     have hx6 : w2.cell? ⟨ob, 0, none⟩ = some vv := blk_cell HX3.out 0
     clear hrg2 hg2
     have hobl2 : ob < w2.heap.size := blk_lt HX3.out
     have hobn : ob ≠ w2.heap.size := by omega
     by_cases hcz : c = 0
     ·subst hcz
      rw [if_neg (by omega)] at HMet2
      go_wp2
      go_roundw
      case rel => exact ⟨_, cn2, vv, ys, by omega, ⟨HRG3.out.alloc _⟩, HMet2, ⟨Kd.R_below HO3.out (below_alloc (Below.refl _ _) _)⟩, ⟨blk_alloc HX3.out _⟩, ⟨below_alloc HB3.out _⟩⟩
      case measure => rw [(HRG3.out.alloc _).left_eq, HRG.out.left_eq]; omega
     ·rw [if_pos (by omega)] at HMet2
      have HZ1 : Aside0 (w2.heap.size + 1 = (w2.alloc (Obj.cells #[Value.int .i64 x0, Value.int .i64 x1, Value.int .i64 c] 118)).heap.size) := ⟨by simp⟩
      go_wp2_with (at_builtin; refine appIt (w0 := w) (base := w.heap.size) (xs := ys) (ok := fun q => q ≠ ob ∧ q ≠ w.heap.size ∧ q ≠ r) rfl rfl (congrArg (fun n => Value.slice (some ⟨n, 0, none⟩) 1 1) HZ1.out) (Kd.R_below HO3.out (below_alloc (Below.refl _ _) _)) ?fresh (below_alloc HB3.out _) ?base (by omega) ?_; (case fresh => intro q hq; have h8 := blk_lt HX3.out; have h9 := HRG3.out.lt; rw [← HZ1.out] at hq; exact ⟨by omega, by omega, by omega⟩); (case base => rw [← HZ1.out]; omega); intro v1 w3 hr3 hb3 hg3 hat3; have HO4 := Aside0.mk hr3; have HG3 := Aside0.mk hg3; have HB4 := Aside0.mk hb3; have HX4 := Aside0.mk (show w3.heap[ob]? = some (.cells #[vv] 46 (0, 0)) from (hg3.block ob (by rw [← HZ1.out]; omega) (fun e => (HO3.out.1 ob e.symm).1 rfl)).trans (blk_alloc HX3.out _)); have hx7 : w3.cell? ⟨ob, 0, none⟩ = some vv := blk_cell HX4.out 0; have hf7 : w3.frozen? ⟨ob, 0, none⟩ = false := (by simp [World.frozen?, HX4.out]); obtain ⟨A4, c4, rfl, hc4, _⟩ := Kd.R_reads hr3; clear hr3 hb3 hg3 hat3)
      have HRG5 : ∀ u, (w3.setCell ⟨ob, 0, none⟩ u).ranges Try.prog 118 (plainElem (H := Unit) Try.prog 3) w.heap.size r l.length D (fun z => left z && !z.sameKey (litIt x0 x1 0)) cn2 := fun u =>
       ((HRG3.out.alloc _).kept HG3.out (fun e => (HO3.out.1 _ e.symm).2.1 rfl) (fun e => (HO3.out.1 _ e.symm).2.2 rfl)).kept (row := some ob) ⟨rfl, rfl, rfl, by simp, fun q _ hne => Below.heap_setCell _ _ _ _ (fun e => hne (by rw [e]))⟩ (fun e => by have := Option.some.inj e; omega) (fun e => hobr (Option.some.inj e).symm)
      go_roundw
      case rel =>
       refine ⟨_, cn2, .slice A4 (ys.length + 1) c4, ys ++ [⟨x0, x1, c⟩], ?_, ⟨HRG5 _⟩, HMet2, ⟨?_⟩, ⟨?_⟩, ⟨?_⟩⟩
       ·rw [List.length_append, List.length_singleton]; omega
       ·have h6 := HO4.out
        rw [List.length_append, List.length_singleton] at h6
        exact Kd.R_far (p := ⟨ob, 0, none⟩) h6 (fun q hq => hq.1) _
       ·simpa using blk_set HX4.out 0 _
       ·exact below_set HB4.out (by omega)
      case measure =>
       rw [(HRG5 _).left_eq, HRG.out.left_eq]; omega
theorem Gathered.eq_items {l ys : List It} (h : Gathered l ys) (hs : ys.Pairwise (fun a b => ltIt b a = false)) (hwf : ∀ x ∈ l, wfI x.f0 ∧ wfI x.f1 ∧ wfI x.f2) : ys = items l := by
 obtain ⟨i1, i2⟩ := items_spec l (fun x hx => (hwf x hx).2.2)
 have hkw : ∀ a b, keyed l a b = true → wfI a ∧ wfI b := fun a b hk => by
  obtain ⟨x, hx, e⟩ := List.any_eq_true.1 hk
  simp only [Bool.and_eq_true, decide_eq_true_eq] at e
  have := hwf x hx
  rw [← e.1, ← e.2]
  exact ⟨this.1, this.2.1⟩
 refine asc_unique (R := fun x y => x.f0 < y.f0 ∨ (x.f0 = y.f0 ∧ x.f1 < y.f1)) (fun x h => by omega) (fun x y z h1 h2 => by omega) ?_ i1 (fun y => ⟨fun hy => ?_, fun hy => ?_⟩)
 ·refine (hs.and h.2.1).imp (fun {x y} hxy => ?_)
  obtain ⟨h1, h2⟩ := hxy
  simp [ltIt] at h1
  omega
 ·obtain ⟨w0, w1, h3, h4⟩ := h.1 y hy
  refine (i2 y).2 ⟨?_, h3, h4⟩
  cases hk : keyed l y.f0 y.f1 with
  | true => rfl
  | false => rw [cnt_none hk] at h3; exact absurd h3 h4
 ·obtain ⟨h1, h2, h3⟩ := (i2 y).1 hy
  obtain ⟨w0, w1⟩ := hkw _ _ h1
  have := h.2.2 y.f0 y.f1 w0 w1 h1 (by rw [← h2]; exact h3)
  rw [← h2] at this
  exact this
theorem impl_gathered (v : Value) (l : List It) (w : World) (h : Sl kIt w v l) (hwf : ∀ x ∈ l, wfI x.f0 ∧ wfI x.f1 ∧ wfI x.f2) (hl : l.length < 1099511627776) : Calls Try.prog 141 #[v] w (RetR kIt 118 w (items l)) :=
 (impl_gathered0 v l w h (fun x hx => ⟨(hwf x hx).1, (hwf x hx).2.1⟩) hl).mono fun _ _ ⟨u, ys, he, hR, hb, hg, hs⟩ => ⟨u, he, by rw [← hg.eq_items hs hwf]; exact hR, hb⟩
end Go.Proofs.Ytkdendlgaaimbaa.X
namespace Go.Proofs.Ytkdendlgaaimbaa.X
open Go.RowKit Go.WideElems Go.MapKept Go.ChangeMaps Go.ChangeShapes Go.WideShapes Go.Proofs.YtkdendlgaaimbaaW.PrintWords
open Go.WideMaps (KeyLaw)
open Go.Maps (Keyed)
set_option linter.unusedVariables false
set_option linter.unusedSimpArgs false
def wfK (r : Rw) : Prop := wfI r.f0 ∧ wfI r.f1 ∧ wfI r.f2.f0 ∧ wfI r.f2.f1
def litK (r : Rw) : Lit := litRw r.f0 r.f1 r.f2.f0 r.f2.f1 0
theorem keyK {r : Rw} (h : wfK r) : keyOf Try.prog 102 (.agg #[.int .i64 r.f0, .int .i64 r.f1, .int .i64 r.f2.f0, .int .i64 r.f2.f1, .int .i64 0]) = some (litK r) := keyRw h.1 h.2.1 h.2.2.1 h.2.2.2 wf0
theorem litK_inj {r s : Rw} (h : wfK r) (k : wfK s) (e : litK r = litK s) : sameR r s := by
 have h1 := keyK h
 have h2 := keyK k
 rw [e] at h1
 have := (Keyed.of_law lawRw).inj h1 h2
 simp at this
 exact this
theorem litK_same {r s : Rw} (h : sameR r s) : litK r = litK s := by unfold litK; rw [h.1, h.2.1, h.2.2.1, h.2.2.2]
theorem keyLitK {r : Rw} (h : wfK r) : WideAt.IsKeyLit (litK r) := (Keyed.of_law lawRw).key (keyK h)
structure MapR (l : List Rw) (D : DataW Unit) : Prop where
 im : Maps.IsMap D
 at_ : ∀ r, wfK r → D.atKey (litK r) (.lit (.int .i64 0)) = .lit (.int .i64 (rcnt l r))
 has : ∀ r, wfK r → Maps.has D (litK r) = rkeyed l r
 only : ∀ kl, Maps.has D kl = true → ∃ r, wfK r ∧ kl = litK r
theorem MapR.start : MapR [] (.map []) := ⟨⟨[], rfl⟩, fun _ _ => rfl, fun _ _ => rfl, fun _ h => by cases h⟩
theorem MapR.step {l : List Rw} {D : DataW Unit} (h : MapR l D) {x : Rw} (hx : wfK x) : MapR (l ++ [x]) (D.put (litK x) (.lit (.int .i64 (wrap64 (rcnt l x + x.f3))))) := by
 refine ⟨?_, fun r hr => ?_, fun r hr => ?_, fun kl hk => ?_⟩
 ·obtain ⟨es, rfl⟩ := h.im; exact ⟨_, rfl⟩
 ·rw [rcnt_snoc, stepR]
  by_cases he : sameR x r
  ·rw [← litK_same he, Maps.atKey_put_same h.im (keyLitK hx), if_pos he, rcnt_like he]
  ·rw [Maps.atKey_put_other (fun e => he (litK_inj hx hr e.symm)), if_neg he, h.at_ r hr]
 ·rw [rkeyed_snoc]
  by_cases he : sameR x r
  ·rw [← litK_same he, Maps.has_put_same h.im (keyLitK hx), decide_eq_true he, Bool.or_true]
  ·rw [Maps.has_put_other (fun e => he (litK_inj hx hr e.symm)), h.has r hr, decide_eq_false he, Bool.or_false]
 ·by_cases he : kl = litK x
  ·exact ⟨_, hx, he⟩
  ·rw [Maps.has_put_other he] at hk
   exact h.only kl hk
structure MetR (l : List Rw) (D : DataW Unit) (left : Lit → Bool) (ys : List Rw) : Prop where
 of : ∀ y ∈ ys, wfK y ∧ y.f3 = rcnt l y ∧ y.f3 ≠ 0 ∧ left (litK y) = false
 once : ys.Pairwise fun x y => ¬ sameR x y
 all : ∀ r, wfK r → Maps.has D (litK r) = true → left (litK r) = false → rcnt l r ≠ 0 → { r with f3 := rcnt l r } ∈ ys
 from_ : ∀ kl, left kl = true → Maps.has D kl = true
theorem MetR.start (l : List Rw) (D : DataW Unit) : MetR l D (Maps.has D) [] := ⟨fun y hy => (by cases hy), List.Pairwise.nil, fun r _ h1 h2 => (by rw [h1] at h2; cases h2), fun _ h => h⟩
theorem sameKey_litK {r s : Rw} (h : wfK r) (k : wfK s) : (litK r).sameKey (litK s) = decide (sameR r s) := by
 by_cases e : sameR r s
 ·rw [litK_same e, WideAt.sameKey_self (keyLitK k), decide_eq_true e]
 ·have h1 : litK r ≠ litK s := fun e2 => e (litK_inj h k e2)
  rw [decide_eq_false e]
  cases hs : (litK r).sameKey (litK s) with
  | false => rfl
  | true => exact absurd (by simpa [litK, litRw, Lit.sameKey] using hs) (fun e2 => h1 (by simp [litK, litRw]; exact e2))
theorem MetR.step {l : List Rw} {D : DataW Unit} {left : Lit → Bool} {ys : List Rw} (hM : MapR l D) (h : MetR l D left ys) {r : Rw} (hr : wfK r) (hl : left (litK r) = true) :
  MetR l D (fun z => left z && !z.sameKey (litK r)) (if rcnt l r ≠ 0 then ys ++ [{ r with f3 := rcnt l r }] else ys) := by
 have hnew : ∀ y ∈ ys, ¬ sameR y r := fun y hy e => by
  obtain ⟨_, _, _, h5⟩ := h.of y hy
  rw [litK_same e, hl] at h5
  cases h5
 have hold : ∀ y ∈ ys, (left (litK y) && !(litK y).sameKey (litK r)) = false := fun y hy => by rw [(h.of y hy).2.2.2]; rfl
 have hs : sameR { r with f3 := rcnt l r } r := ⟨rfl, rfl, rfl, rfl⟩
 refine ⟨fun y hy => ?_, ?_, fun s hs' h1 h2 h3 => ?_, fun kl hk => ?_⟩
 ·by_cases h0 : rcnt l r ≠ 0
  ·rw [if_pos h0] at hy
   rcases List.mem_append.1 hy with hy | hy
   ·obtain ⟨g1, g2, g3, _⟩ := h.of y hy
    exact ⟨g1, g2, g3, hold y hy⟩
   ·rw [List.mem_singleton.1 hy]
    refine ⟨hr, (rcnt_like hs l).symm, h0, ?_⟩
    show (left (litK { r with f3 := rcnt l r }) && !(litK { r with f3 := rcnt l r }).sameKey (litK r)) = false
    rw [litK_same hs, sameKey_litK hr hr, decide_eq_true (sameR_refl r)]; simp
  ·rw [if_neg h0] at hy
   obtain ⟨g1, g2, g3, _⟩ := h.of y hy
   exact ⟨g1, g2, g3, hold y hy⟩
 ·split
  ·refine List.pairwise_append.2 ⟨h.once, List.pairwise_singleton _ _, fun x hx y hy e => ?_⟩
   rw [List.mem_singleton.1 hy] at e
   exact hnew x hx (sameR_trans e hs)
  ·exact h.once
 ·replace h2 : (left (litK s) && !(litK s).sameKey (litK r)) = false := h2
  rw [sameKey_litK hs' hr] at h2
  by_cases he : sameR s r
  ·have hc := rcnt_like he l
   rw [if_pos (by rw [← hc]; exact h3)]
   refine List.mem_append.2 (.inr (List.mem_singleton.2 ?_))
   exact Rw.ext' he.1 he.2.1 (Tm.ext' he.2.2.1 he.2.2.2) hc
  ·rw [decide_eq_false he, Bool.not_false, Bool.and_true] at h2
   have := h.all s hs' h1 h2 h3
   split
   ·exact List.mem_append.2 (.inl this)
   ·exact this
 ·simp only [Bool.and_eq_true] at hk
  exact h.from_ kl hk.1
def GatheredR (l ys : List Rw) : Prop := (∀ y ∈ ys, wfK y ∧ y.f3 = rcnt l y ∧ y.f3 ≠ 0) ∧ (ys.Pairwise fun x y => ¬ sameR x y) ∧ ∀ r, wfK r → rkeyed l r = true → rcnt l r ≠ 0 → { r with f3 := rcnt l r } ∈ ys
theorem MetR.done {l : List Rw} {D : DataW Unit} {left : Lit → Bool} {ys : List Rw} (hM : MapR l D) (h : MetR l D left ys) (h0 : ∀ kl, left kl = false) : GatheredR l ys :=
 ⟨fun y hy => ⟨(h.of y hy).1, (h.of y hy).2.1, (h.of y hy).2.2.1⟩, h.once, fun r hr hk hc => h.all r hr (by rw [hM.has r hr]; exact hk) (h0 _) hc⟩
theorem GatheredR.perm {l ys zs : List Rw} (h : GatheredR l ys) (hp : zs.Perm ys) : GatheredR l zs :=
 ⟨fun y hy => h.1 y (hp.mem_iff.1 hy), (hp.symm.pairwise_iff (fun {x y} hxy e => hxy (sameR_symm e))).1 h.2.1, fun r hr hk hc => hp.mem_iff.2 (h.2.2 r hr hk hc)⟩
set_option maxRecDepth 100000 in
set_option maxHeartbeats 4000000 in
theorem impl_consolidated0 (v : Value) (l : List Rw) (w : World) (h : Sl kRw w v l) (hwf : ∀ x ∈ l, wfK x) (hl : l.length < 1099511627776) : Calls Try.prog 80 #[v] w fun e w' => ∃ u ys, e = .returned u ∧ kRw.R 102 w' w.heap.size okT u ys ∧ Below w.heap.size w w' ∧ GatheredR l ys ∧ ys.Pairwise (fun a b => rowAhead b a = false) := by
 have hmm := @run_makeMap Try.prog
 obtain ⟨A, c_, rfl, HC, hr⟩ := h
 have hm := Kd.C_max hr
 have HR := Aside0.mk hr
 clear hr
 have HB := Aside0.mk (Below.refl w.heap.size w)
 go_enter Try.func80, Try.ntmps80
 go_wp2
 go_loopw [12] (fun i wr => ∃ k : Nat, k ≤ l.length ∧ i = .int .i64 k ∧ Aside0 (∃ D, wr.ownsMap Try.prog 102 (plainElem (H := Unit) Try.prog 3) w.heap.size k D ∧ MapR (l.take k) D) ∧ Aside0 (Below w.heap.size w wr)) (fun i _ => l.length - (intOf i).toNat)
 case atStart => exact ⟨0, Nat.zero_le _, rfl, ⟨_, World.ownsMap_made _ _ _ _, MapR.start⟩, ⟨(Below.refl _ _).alloc (Nat.le_refl _) _⟩⟩
 case round =>
  obtain ⟨k, hk, rfl, HM, HB⟩ := hrel
  by_cases hlt : k < l.length
  ·obtain ⟨ad, x, e, HX, h0, h1, h2, h3, h4⟩ := rdRw HR.out HB.out hlt
   cases e
   obtain ⟨D, hown, hMI⟩ := HM.out
   have hx := hwf x (List.mem_of_getElem? HX.out)
   go_wp2
   refine name_world fun W hW => ?_
   have b0 : W.cell? ⟨wr.heap.size, 0, none⟩ = some (.int .i64 x.f0) := by rw [hW]; exact blk_cell (blk_new _ _) 0
   have b1 : W.cell? ⟨wr.heap.size, 1, none⟩ = some (.int .i64 x.f1) := by rw [hW]; exact blk_cell (blk_new _ _) 1
   have b2 : W.cell? ⟨wr.heap.size, 2, none⟩ = some (.int .i64 x.f2.f0) := by rw [hW]; exact blk_cell (blk_new _ _) 2
   have b3 : W.cell? ⟨wr.heap.size, 3, none⟩ = some (.int .i64 x.f2.f1) := by rw [hW]; exact blk_cell (blk_new _ _) 3
   have b4 : W.cell? ⟨wr.heap.size, 4, none⟩ = some (.int .i64 x.f3) := by rw [hW]; exact blk_cell (blk_new _ _) 4
   have hB1 : w.heap.size < wr.heap.size := hown.lt
   have hownW : W.drew.ownsMap Try.prog 102 (plainElem (H := Unit) Try.prog 3) w.heap.size k D := by
    rw [hW]
    exact hown.alloc _
   have HBW : Below w.heap.size w W.drew := by rw [hW]; exact below_drew (below_alloc HB.out _)
   obtain ⟨c, st, w2, hat, hlook, hent, hlook2, hsto⟩ := map_add lawRw Try.underlying148 Try.underlying3 zeroI hownW (by unfold maxLen; omega) (keyK hx)
   rw [hMI.at_ _ hx] at hat
   have hc : rcnt (l.take k) x = c := by simpa using hat
   obtain ⟨w4, hst, hown4, hgr⟩ := hsto (wrap64 (c + x.f3)) (wrap64_wf _)
   clear hsto hat hown hownW
   have hst' : (Instr.entryStore 148 (.map (some w.heap.size)) (.int .i64 (st : Int)) (.int .i64 (wrap64 (c + x.f3)))).run Try.prog w2 = .ok () w4 := hst
   have hent' : (Instr.mapEntry 148 (.map (some w.heap.size)) (.agg #[.int .i64 x.f0, .int .i64 x.f1, .int .i64 x.f2.f0, .int .i64 x.f2.f1, .int .i64 0])).run Try.prog W.drew = .ok (.tuple #[.int .i64 c, .int .i64 (st : Int)]) w2 := hent
   clear hst hent
   have HM2 : Aside0 (∃ D, w4.ownsMap Try.prog 102 (plainElem (H := Unit) Try.prog 3) w.heap.size (k + 1) D ∧ MapR (l.take (k + 1)) D) := ⟨_, hown4, by rw [take_snoc HX.out, ← hc]; exact hMI.step hx⟩
   have HB4 : Aside0 (Below w.heap.size w w4) := ⟨HBW.grown hgr HBW.size (fun j hj => by cases hj; exact Nat.le_refl _)⟩
   clear hown4 hgr HBW hMI hW
   go_region
   all_goals go_wp2
   all_goals go_roundw
   case rel => exact ⟨k + 1, by omega, by go_num, HM2, HB4⟩
   case measure => simp [intOf]; omega
  ·obtain rfl : k = l.length := by omega
   obtain ⟨D, hown, hMI⟩ := HM.out
   rw [List.take_length] at hMI
   clear HM hmm
   have hB1 : w.heap.size < wr.heap.size := hown.lt
   have hsize : Maps.size D ≤ l.length := by
    obtain ⟨es, _, _, _, hs, rfl⟩ := hown
    show (((es.toList.map (rg Try.prog 102 (plainElem (H := Unit) Try.prog 3))).foldr DataW.insert [])).length ≤ l.length
    rw [Go.length_sorted]; simpa using hs
   go_wp2_with (first | (at_range; refine wpList_range_own _ rfl _ 148 rfl 102 3 (Keyed.of_law lawRw) Try.underlying148 _ w.heap.size l.length D rfl ((hown.alloc _).alloc _) ?_; intro w0 hrg0 hg0 hs0) | go_in)
   go_frame
   obtain ⟨r, hr⟩ : ∃ r, r = wr.heap.size + 2 := ⟨_, rfl⟩
   obtain ⟨ob, hob⟩ : ∃ ob, ob = wr.heap.size + 1 := ⟨_, rfl⟩
   have er : ((wr.alloc (Obj.cells #[] 102)).alloc (Obj.cells #[Value.slice (some ⟨wr.heap.size, 0, none⟩) 0 0] 27)).heap.size = r := by rw [hr]; simp
   rw [er] at hrg0 ⊢
   rw [← hob]
   have HO : Aside0 (kRw.R 102 w0 w.heap.size (fun q => q ≠ ob ∧ q ≠ w.heap.size ∧ q ≠ r) (.slice (some ⟨wr.heap.size, 0, none⟩) 0 0) []) := by
    have h1 : (wr.alloc (Obj.cells #[] 102)).heap[wr.heap.size]? = some (.cells #[] 102 (0, 0)) := blk_new _ _
    have h2 : w0.heap[wr.heap.size]? = some (.cells #[] 102 (0, 0)) := by
     rw [hg0.block _ (by simp; omega) (by simp)]; exact blk_alloc h1 _
    exact ⟨own_of_cells (d := kRw) (xs := []) vRw (fun _ => rfl) (by decide) (fun _ _ _ x => kRw_M.2 rfl) h2 (by simp) (by simp) (by unfold maxLen; omega) (by omega) ⟨by omega, by omega, by omega⟩ (fun j x hj => by simp at hj)⟩
   have HX0 : Aside0 (w0.heap[ob]? = some (.cells #[.slice (some ⟨wr.heap.size, 0, none⟩) 0 0] 27 (0, 0))) := by
    constructor
    rw [hob, hg0.block _ (by simp) (by simp)]
    exact blk_two _ _ _
   have HB0 : Aside0 (Below w.heap.size w w0) := ⟨(below_alloc (below_alloc HB.out _) _).grown hg0 (by simp; have := HB.out.size; omega) (fun j hj => by cases hj)⟩
   have HR0 := Aside0.mk hrg0
   have hob1 : w.heap.size < ob := by omega
   have hobr : ob ≠ r := by omega
   clear hrg0 hg0 hs0 er hown HB
   have hBr : w.heap.size ≤ r := by omega
   clear hr hob
   generalize hv0 : Value.slice (some ⟨wr.heap.size, 0, none⟩) 0 0 = v0 at HO HX0
   go_loopw [] (fun wq => ∃ (left : Lit → Bool) (cn : Nat) (vv : Value) (ys : List Rw), ys.length + cn ≤ l.length ∧ Aside0 (wq.ranges Try.prog 102 (plainElem (H := Unit) Try.prog 3) w.heap.size r l.length D left cn) ∧ Aside0 (MetR l D left ys) ∧ Aside0 (kRw.R 102 wq w.heap.size (fun q => q ≠ ob ∧ q ≠ w.heap.size ∧ q ≠ r) vv ys) ∧ Aside0 (wq.heap[ob]? = some (.cells #[vv] 27 (0, 0))) ∧ Aside0 (Below w.heap.size w wq)) (fun wq => wq.rangeLeft w.heap.size r)
   case atStart => exact ⟨Maps.has D, Maps.size D, v0, [], by simpa using hsize, HR0, ⟨MetR.start l D⟩, HO, HX0, HB0⟩
   case round =>
    obtain ⟨left, cn, vv, ys, hle, HRG, HMet, HO2, HX2, HB2⟩ := hrel
    go_wp2_with (first | (at_next; refine wpList_next_ranges _ rfl _ rfl 102 (Keyed.of_law lawRw) (plainElem (H := Unit) Try.prog 3) (fun x : Rw => Value.agg #[.int .i64 x.f0, .int .i64 x.f1, .int .i64 x.f2.f0, .int .i64 x.f2.f1, .int .i64 x.f3]) (Value.int .i64) (fun key kl hk => by obtain ⟨x, hx, _⟩ := keyRw_inv hk; exact ⟨x, hx⟩) (fun v y hv => by obtain ⟨c, rfl, _⟩ := plainElem_int_inv Try.underlying3 hv; exact ⟨c, rfl⟩) w.heap.size r _ _ _ _ rfl HRG.out ?_ ?_) | go_in)
    ·intro hc0 hl0
     have HG := Aside0.mk (HMet.out.done hMI hl0)
     obtain ⟨A2, c2, rfl, hc2, _⟩ := Kd.R_reads HO2.out
     have hne : ∀ q, (Value.slice A2 ys.length c2).ownBlock = some q → q ≠ ob := fun q hq => (HO2.out.1 q hq).1
     have hbs := Kd.R_base HO2.out
     have hx0 : wr.cell? ⟨ob, 0, none⟩ = some (.slice A2 ys.length c2) := blk_cell HX2.out 0
     have hsort := Aside0.mk (sortRw A2 c2 ob _ _ _ ys wr HO2.out hx0 (blk_lt HX2.out) (fun a ha e => hne a.block (by rw [ha]; rfl) e.symm) (by omega))
     go_wp2_with (go_at_call 133; refine hsort.out.mono ?_; rintro e w' ⟨rfl, zs, hp, hso, hR3, hgr⟩; have hx3 : w'.cell? ⟨ob, 0, none⟩ = some (.slice A2 ys.length c2) := (by have h5 := hgr.block ob (blk_lt HX2.out) (fun e => hne ob e.symm rfl); rw [HX2.out] at h5; exact blk_cell h5 0); have HB3 := Aside0.mk (HB2.out.grown hgr HB2.out.size hbs); have HR3 := Aside0.mk hR3; have HP := Aside0.mk (HG.out.perm hp); have HS := Aside0.mk hso; clear hgr hp hso hR3)
     go_ret
     exact ⟨_, zs, rfl, Kd.R_mono HR3.out (fun _ _ => trivial), HB3.out, HP.out, HS.out⟩
    ·intro x c kl yd yp w2 cn2 hkey hlk hv hat hrg2 hlt hg2 hs2 hen
     obtain ⟨x', ex, rfl, wx0, wx1, wx2, wx3, wx4⟩ := keyRw_inv hkey
     simp at ex
     obtain rfl : x = x' := Rw.ext' ex.1 ex.2.1 (Tm.ext' ex.2.2.1 ex.2.2.2.1) ex.2.2.2.2
     clear ex
     obtain ⟨s, ws, ekl⟩ := hMI.only _ (HMet.out.from_ _ hlk)
     have ekey := (Keyed.of_law lawRw).inj hkey (by rw [ekl]; exact keyK ws)
     obtain ⟨x0, x1, ⟨x2, x3⟩, x4⟩ := x
     obtain ⟨y0, y1, ⟨y2, y3⟩, y4⟩ := s
     simp at ekey
     obtain ⟨rfl, rfl, rfl, rfl, rfl⟩ := ekey
     rw [ekl] at hlk hat hrg2
     clear ekl hkey
     obtain ⟨c', ec, hyd, hwc⟩ := plainElem_int_inv Try.underlying3 hv
     have hcc : rcnt l ⟨x0, x1, ⟨x2, x3⟩, y4⟩ = c := by
      have h5 := hat (.lit (.int .i64 0))
      rw [hMI.at_ _ ws] at h5
      simp at hyd ec
      rw [hyd.1, ← ec] at h5
      simpa using h5
     have HMet2 := Aside0.mk (HMet.out.step hMI ws hlk)
     rw [hcc] at HMet2
     clear hv hat hyd hwc ec hs2
     have HO3 := Aside0.mk (Kd.R_grown HO2.out hg2 (fun q hq e => hq.2.2 (Option.some.inj e)))
     have hobl := blk_lt HX2.out
     have HX3 : Aside0 (w2.heap[ob]? = some (.cells #[vv] 27 (0, 0))) := ⟨by rw [hg2.block ob hobl (fun e => hobr (Option.some.inj e)), HX2.out]⟩
     have HB3 := Aside0.mk (HB2.out.grown hg2 HB2.out.size (fun j hj => by cases hj; exact hBr))
     have HRG3 := Aside0.mk hrg2
     have hx6 : w2.cell? ⟨ob, 0, none⟩ = some vv := blk_cell HX3.out 0
     clear hrg2 hg2
     have hobl2 : ob < w2.heap.size := blk_lt HX3.out
     have hobn : ob ≠ w2.heap.size := by omega
     by_cases hcz : c = 0
     ·subst hcz
      rw [if_neg (by omega)] at HMet2
      go_wp2
      go_roundw
      case rel => exact ⟨_, cn2, vv, ys, by omega, ⟨HRG3.out.alloc _⟩, HMet2, ⟨Kd.R_below HO3.out (below_alloc (Below.refl _ _) _)⟩, ⟨blk_alloc HX3.out _⟩, ⟨below_alloc HB3.out _⟩⟩
      case measure => rw [(HRG3.out.alloc _).left_eq, HRG.out.left_eq]; omega
     ·rw [if_pos (by omega)] at HMet2
      have HZ1 : Aside0 (w2.heap.size + 1 = (w2.alloc (Obj.cells #[Value.int .i64 x0, Value.int .i64 x1, Value.int .i64 x2, Value.int .i64 x3, Value.int .i64 c] 102)).heap.size) := ⟨by simp⟩
      go_wp2_with (at_builtin; refine appRw (w0 := w) (base := w.heap.size) (xs := ys) (ok := fun q => q ≠ ob ∧ q ≠ w.heap.size ∧ q ≠ r) rfl rfl (congrArg (fun n => Value.slice (some ⟨n, 0, none⟩) 1 1) HZ1.out) (Kd.R_below HO3.out (below_alloc (Below.refl _ _) _)) ?fresh (below_alloc HB3.out _) ?base (by omega) ?_; (case fresh => intro q hq; have h8 := blk_lt HX3.out; have h9 := HRG3.out.lt; rw [← HZ1.out] at hq; exact ⟨by omega, by omega, by omega⟩); (case base => rw [← HZ1.out]; omega); intro v1 w3 hr3 hb3 hg3 hat3; have HO4 := Aside0.mk hr3; have HG3 := Aside0.mk hg3; have HB4 := Aside0.mk hb3; have HX4 := Aside0.mk (show w3.heap[ob]? = some (.cells #[vv] 27 (0, 0)) from (hg3.block ob (by rw [← HZ1.out]; omega) (fun e => (HO3.out.1 ob e.symm).1 rfl)).trans (blk_alloc HX3.out _)); have hx7 : w3.cell? ⟨ob, 0, none⟩ = some vv := blk_cell HX4.out 0; have hf7 : w3.frozen? ⟨ob, 0, none⟩ = false := (by simp [World.frozen?, HX4.out]); obtain ⟨A4, c4, rfl, hc4, _⟩ := Kd.R_reads hr3; clear hr3 hb3 hg3 hat3)
      have HRG5 : ∀ u, (w3.setCell ⟨ob, 0, none⟩ u).ranges Try.prog 102 (plainElem (H := Unit) Try.prog 3) w.heap.size r l.length D (fun z => left z && !z.sameKey (litK ⟨x0, x1, ⟨x2, x3⟩, y4⟩)) cn2 := fun u =>
       ((HRG3.out.alloc _).kept HG3.out (fun e => (HO3.out.1 _ e.symm).2.1 rfl) (fun e => (HO3.out.1 _ e.symm).2.2 rfl)).kept (row := some ob) ⟨rfl, rfl, rfl, by simp, fun q _ hne => Below.heap_setCell _ _ _ _ (fun e => hne (by rw [e]))⟩ (fun e => by have := Option.some.inj e; omega) (fun e => hobr (Option.some.inj e).symm)
      go_roundw
      case rel =>
       refine ⟨_, cn2, .slice A4 (ys.length + 1) c4, ys ++ [⟨x0, x1, ⟨x2, x3⟩, c⟩], ?_, ⟨HRG5 _⟩, HMet2, ⟨?_⟩, ⟨?_⟩, ⟨?_⟩⟩
       ·rw [List.length_append, List.length_singleton]; omega
       ·have h6 := HO4.out
        rw [List.length_append, List.length_singleton] at h6
        exact Kd.R_far (p := ⟨ob, 0, none⟩) h6 (fun q hq => hq.1) _
       ·simpa using blk_set HX4.out 0 _
       ·exact below_set HB4.out (by omega)
      case measure =>
       rw [(HRG5 _).left_eq, HRG.out.left_eq]; omega
theorem GatheredR.eq_sum {l ys : List Rw} (h : GatheredR l ys) (hs : ys.Pairwise (fun a b => rowAhead b a = false)) (hwf : ∀ x ∈ l, wfK x ∧ wfI x.f3) : ys = sum l := by
 obtain ⟨i1, i2⟩ := sum_spec l (fun x hx => (hwf x hx).2)
 have hkw : ∀ r, rkeyed l r = true → wfK r := fun r hk => by
  obtain ⟨x, hx, e⟩ := List.any_eq_true.1 hk
  have e := of_decide_eq_true e
  obtain ⟨h0, h1, h2, h3⟩ := (hwf x hx).1
  exact ⟨e.1 ▸ h0, e.2.1 ▸ h1, e.2.2.1 ▸ h2, e.2.2.2 ▸ h3⟩
 refine asc_unique (R := ltR) ltR_irr (fun x y z h1 h2 => ltR_trans h1 h2) ?_ i1 (fun y => ⟨fun hy => ?_, fun hy => ?_⟩)
 ·refine (hs.and h.2.1).imp (fun {x y} hxy => ?_)
  obtain ⟨h1, h2⟩ := hxy
  exact ltR_third (fun h3 => by rw [(rowAhead_iff y x).2 h3] at h1; cases h1) h2
 ·obtain ⟨w0, h3, h4⟩ := h.1 y hy
  refine (i2 y).2 ⟨?_, h3, h4⟩
  cases hk : rkeyed l y with
  | true => rfl
  | false => rw [rcnt_none hk] at h3; exact absurd h3 h4
 ·obtain ⟨h1, h2, h3⟩ := (i2 y).1 hy
  have := h.2.2 y (hkw _ h1) h1 (by rw [← h2]; exact h3)
  rw [← h2] at this
  exact this
theorem impl_consolidated (v : Value) (l : List Rw) (w : World) (h : Sl kRw w v l) (hwf : ∀ x ∈ l, wfK x ∧ wfI x.f3) (hl : l.length < 1099511627776) : Calls Try.prog 80 #[v] w (RetR kRw 102 w (sum l)) :=
 (impl_consolidated0 v l w h (fun x hx => (hwf x hx).1) hl).mono fun _ _ ⟨u, ys, he, hR, hb, hg, hs⟩ => ⟨u, he, by rw [← hg.eq_sum hs hwf]; exact hR, hb⟩
end Go.Proofs.Ytkdendlgaaimbaa.X
