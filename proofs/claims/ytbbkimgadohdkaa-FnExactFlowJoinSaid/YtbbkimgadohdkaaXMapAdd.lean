/- Maps that a call makes: m[k] += n in whatever order its look-up and its entry come; keys that are structs of whole numbers. Conditions: none. -/
import Derived.Test.YtbbkimgadohdkaaXBase
import Derived.WideKeyEntry
import Derived.Maps.RangeWalk
import Derived.Maps.OwnOps
import Derived.Maps.Ext
import Derived.DeepKeys4
import Derived.MapViews
namespace Go.Proofs.Ytbbkimgadohdkaa.X
open Go.RowKit Go.WideElems Go.MapKept Go.ChangeMaps Go.ChangeShapes Go.WideShapes Go.Proofs.YtbbkimgadohdkaaW.PrintWords
open Go.WideMaps (KeyLaw)
open Go.Maps (Keyed)
set_option linter.unusedVariables false
set_option linter.unusedSimpArgs false

/-- m[k] += n: the look-up tells the same ahead of the entry's making and behind it -/
theorem map_add {H : Type} {P : Program} {w : World} {t k e : TypeId} {q : IntKind} {B n : Nat} {D : DataW H} (L : KeyLaw P k) (ht : P.underlying t = some (.map k e)) (he : P.underlying e = some (.int q)) (hz : ∀ u : World, (zeroValue e).run P u = .ok (.int q 0) u)
    (hown : w.ownsMap P k (plainElem P e) B n D) (hn : n < maxLen) {key : Value} {kl : Lit} (hkey : keyOf P k key = some kl) :
    ∃ (c : Int) (st : Nat) (w2 : World), D.atKey kl (.lit (.int q 0)) = .lit (.int q c) ∧ (Instr.lookup t (.map (some B)) key false).run P w = .ok (.int q c) w ∧
      (Instr.mapEntry t (.map (some B)) key).run P w = .ok (.tuple #[.int q c, goInt st]) w2 ∧ (Instr.lookup t (.map (some B)) key false).run P w2 = .ok (.int q c) w2 ∧
      ∀ n' : Int, (Lit.int q n').wf = true → ∃ w4, (Instr.entryStore t (.map (some B)) (goInt st) (.int q n')).run P w2 = .ok () w4 ∧ w4.ownsMap P k (plainElem (H := H) P e) B (n + 1) (D.put kl (.lit (.int q n'))) ∧ w.grownBy w4 (some B) := by
  have K := Keyed.of_law L
  obtain ⟨c, hlook, hat, hwc⟩ := hown.lookup_int K ht he (hz w) hkey
  have hown0 := hown
  obtain ⟨es, clock, hb, F, hs, rfl⟩ := hown
  obtain ⟨v0, st, es1, clock1, hrun, hv0, hst⟩ := entry_then_store L ht hz hb F hkey
  have hb2 : (setBlock w B (.map es1 clock1)).heap[B]? = some (.map es1 clock1) := heap_setBlock_same hb _
  have hst2 : ∀ n' : Int, (Lit.int q n').wf = true → ∃ w4, (Instr.entryStore t (.map (some B)) (goInt st) (.int q n')).run P (setBlock w B (.map es1 clock1)) = .ok () w4 ∧ w4.ownsMap P k (plainElem (H := H) P e) B (n + 1) ((DataW.map (H := H) ((es.toList.map (rg P k (plainElem (H := H) P e))).foldr DataW.insert [])).put kl (.lit (.int q n'))) ∧ w.grownBy w4 (some B) := by
    intro n' hw'
    obtain ⟨es', clock', h1, h2⟩ := hst _ (.int q n') hb2
    obtain ⟨w', h3, h4, h5⟩ := hown0.update K ht hn hkey (plainElem_int (H := H) he hw')
    rw [h2] at h3
    obtain ⟨_, rfl⟩ := Result.ok.inj h3
    have e4 : setBlock (setBlock w B (.map es1 clock1)) B (.map es' clock') = setBlock w B (.map es' clock') := by simp [setBlock]
    rw [e4] at h1
    exact ⟨_, h1, h4, h5⟩
  have hlk : ∀ (W : World) (es' : Array MapEntry) (cl : Nat), W.heap[B]? = some (.map es' cl) → (∀ x ∈ es'.toList, ∃ l, keyOf P k x.key = some l) → (∀ x ∈ es'.toList, x.key = key → x.val = .int q c) → ((∀ x ∈ es'.toList, x.key ≠ key) → c = 0) → (Instr.lookup t (.map (some B)) key false).run P W = .ok (.int q c) W := by
    intro W es' cl hW hk hval h0
    rcases L.find W hkey es'.toList hk with ⟨a1, a2⟩ | ⟨j, e0, a1, a2, a3⟩
    · simp [Instr.lookup, run_underlying ht, MapKept.run_getObj_map hW, L.check W _ hkey, a1, hz, Result.andThen, h0 a2]
    · have := hval e0 (List.mem_of_getElem? a2) a3
      simp [Instr.lookup, run_underlying ht, MapKept.run_getObj_map hW, L.check W _ hkey, a1, Result.andThen, this]
  have hes : (∀ x ∈ es.toList, x.key = key → x.val = .int q c) ∧ ((∀ x ∈ es.toList, x.key ≠ key) → c = 0) := by
    rcases L.find w hkey es.toList F.keys with ⟨a1, a2⟩ | ⟨j, e0, a1, a2, a3⟩
    · have : (Instr.lookup t (.map (some B)) key false).run P w = .ok (.int q 0) w := by simp [Instr.lookup, run_underlying ht, MapKept.run_getObj_map hb, L.check w _ hkey, a1, hz, Result.andThen]
      rw [hlook] at this
      refine ⟨fun x hx e => absurd e (a2 x hx), fun _ => ?_⟩
      simpa using this
    · have : (Instr.lookup t (.map (some B)) key false).run P w = .ok e0.val w := by simp [Instr.lookup, run_underlying ht, MapKept.run_getObj_map hb, L.check w _ hkey, a1, Result.andThen]
      rw [hlook] at this
      have hval : e0.val = .int q c := by simpa using this.symm
      have hm0 := List.mem_of_getElem? a2
      have hpw : es.toList.Pairwise (fun x y => x.key ≠ y.key) := by
        refine (List.pairwise_map.1 (F.apart L)).imp_of_mem fun {x y} hx hy hne e => hne ?_
        obtain ⟨y1, h1⟩ := F.reads x hx
        obtain ⟨y2, h2⟩ := F.reads y hy
        have k1 := rd_key h1
        have k2 := rd_key h2
        rw [rg_of h1, rg_of h2]
        rw [e, k2] at k1
        exact (Option.some.inj k1).symm
      refine ⟨fun x hx e => ?_, fun h => absurd a3 (h e0 hm0)⟩
      rw [Go.entry_eq_of_key hpw hx hm0 (e.trans a3.symm)]
      exact hval
  have hv : v0 = .int q c ∧ (Instr.lookup t (.map (some B)) key false).run P (setBlock w B (.map es1 clock1)) = .ok (.int q c) (setBlock w B (.map es1 clock1)) := by
    rcases L.find w hkey es.toList F.keys with ⟨a1, a2⟩ | ⟨j, e0, a1, a2, a3⟩
    · have hr : (Instr.mapEntry t (.map (some B)) key).run P w = .ok (.tuple #[.int q 0, goInt clock]) (setBlock w B (.map (es.push ⟨key, .int q 0, clock⟩) (clock + 1))) := by
        simp [Instr.mapEntry, run_underlying ht, MapKept.run_getObj_map hb, L.check w false hkey, a1, hz, MapKept.run_setObj_map _ hb, Result.andThen, setBlock]
      rw [hrun] at hr
      injection hr with hr1 hr2
      have hes1 : es1 = es.push ⟨key, .int q 0, clock⟩ := by
        have := congrArg (fun W : World => W.heap[B]?) hr2
        simp only [hb2, heap_setBlock_same hb] at this
        injection this with this
        injection this
      have hv0' : v0 = .int q 0 := by
        injection hr1 with hr1
        have := congrArg (fun l : Array Value => l[0]?) hr1
        simpa using this
      have hc0 := hes.2 a2
      refine ⟨by rw [hv0', hc0], hlk _ es1 clock1 hb2 ?_ ?_ ?_⟩
      · intro x hx
        rw [hes1, Array.toList_push] at hx
        rcases List.mem_append.1 hx with hx | hx
        · exact F.keys x hx
        · rw [List.mem_singleton.1 hx]; exact ⟨kl, hkey⟩
      · intro x hx e
        rw [hes1, Array.toList_push] at hx
        rcases List.mem_append.1 hx with hx | hx
        · exact absurd e (a2 x hx)
        · rw [List.mem_singleton.1 hx, hc0]
      · intro h
        exact absurd rfl (h ⟨key, .int q 0, clock⟩ (by rw [hes1, Array.toList_push]; simp))
    · have hj : es[j]? = some e0 := by simpa using a2
      have hsame : es.modify j (fun e => { e with key := key }) = es := by
        apply Array.ext'
        rw [Array.toList_modify, modify_eq_set _ _ _ _ a2]
        have : ({ e0 with key := key } : MapEntry) = e0 := by rw [← a3]
        rw [this]
        exact set_self _ _ _ a2
      have hr : (Instr.mapEntry t (.map (some B)) key).run P w = .ok (.tuple #[e0.val, goInt e0.born]) (setBlock w B (.map es clock)) := by
        simp [Instr.mapEntry, run_underlying ht, MapKept.run_getObj_map hb, L.check w false hkey, a1, hj, a3, L.stays w hkey, hsame, MapKept.run_setObj_map _ hb, Result.andThen, setBlock]
      rw [hrun] at hr
      injection hr with hr1 hr2
      have hes1 : es1 = es := by
        have := congrArg (fun W : World => W.heap[B]?) hr2
        simp only [hb2, heap_setBlock_same hb] at this
        injection this with this
        injection this
      have hv0' : v0 = e0.val := by
        injection hr1 with hr1
        have := congrArg (fun l : Array Value => l[0]?) hr1
        simpa using this
      subst hes1
      exact ⟨by rw [hv0']; exact hes.1 e0 (List.mem_of_getElem? a2) a3, hlk _ es1 clock1 hb2 F.keys hes.1 hes.2⟩
  obtain ⟨rfl, hl2⟩ := hv
  exact ⟨c, st, _, hat, hlook, hrun, hl2, hst2⟩

theorem laidOut : laidOutB Try.prog = true := by kernel_rfl
set_option maxRecDepth 100000 in
theorem typesPos : ∃ m, Try.prog.types.size = m + 1 := ⟨Try.prog.types.size - 1, by kernel_rfl⟩
set_option maxRecDepth 100000 in
theorem keyLits_int {d : Nat} {cs : List Value} {ls : List Lit} (h : Try.prog.keyLits (d + 1) 3 cs = some ls) : ∃ n, cs = [.int .i64 n] ∧ ls = [.int .i64 n] ∧ (Lit.int .i64 n).wf = true := by
  unfold Program.keyLits at h
  rw [Try.underlying3] at h
  split at h <;> simp_all
set_option maxRecDepth 100000 in
theorem keyLits_int_mk {d : Nat} {n : Int} (h : (Lit.int .i64 n).wf = true) : Try.prog.keyLits (d + 1) 3 [.int .i64 n] = some [.int .i64 n] := by
  unfold Program.keyLits
  rw [Try.underlying3]
  simp [h]
set_option maxRecDepth 100000 in
theorem lawIt : KeyLaw Try.prog 44 := deep_law_laid laidOut (m := 2) (by omega) (of_decide_eq_true (by kernel_rfl)) (by kernel_rfl) (by rw [Try.underlying44])
def litIt (a b c : Int) : Lit := .string (keyBytes [.int .i64 a, .int .i64 b, .int .i64 c])
theorem cellsItI : Try.prog.cellsOf 44 = 3 := by kernel_rfl
theorem cellsInt : Try.prog.cellsOf 3 = 1 := by kernel_rfl
set_option maxRecDepth 100000 in
theorem keyLitsIt {m : Nat} {a b c : Int} (ha : (Lit.int .i64 a).wf = true) (hb : (Lit.int .i64 b).wf = true) (hc : (Lit.int .i64 c).wf = true) : Try.prog.keyLits (m + 1 + 1) 44 [.int .i64 a, .int .i64 b, .int .i64 c] = some [.int .i64 a, .int .i64 b, .int .i64 c] := by
  unfold Program.keyLits
  rw [Try.underlying44]
  simp [cellsItI, cellsInt, keyLits_int_mk ha, keyLits_int_mk hb, keyLits_int_mk hc]
set_option maxRecDepth 100000 in
theorem keyIt {a b c : Int} (ha : (Lit.int .i64 a).wf = true) (hb : (Lit.int .i64 b).wf = true) (hc : (Lit.int .i64 c).wf = true) : keyOf Try.prog 44 (.agg #[.int .i64 a, .int .i64 b, .int .i64 c]) = some (litIt a b c) := by
  have hk : Try.prog.keyType 44 = true := by kernel_rfl
  have hf : (Value.agg #[.int .i64 a, .int .i64 b, .int .i64 c]).formed Try.prog 44 = true := by simp [Value.formed, Try.underlying44, cellsItI]
  obtain ⟨m, hm⟩ := typesPos
  have hl := keyLitsIt (m := m) ha hb hc
  rw [← hm] at hl
  unfold keyOf
  rw [Try.underlying44]
  simp only [hk, hf, Bool.and_self, if_true]
  rw [show (Value.agg #[.int .i64 a, .int .i64 b, .int .i64 c]).cells.toList = [.int .i64 a, .int .i64 b, .int .i64 c] from rfl, hl]
  rfl
set_option maxRecDepth 100000 in
theorem keyIt_inv {v : Value} {kl : Lit} (h : keyOf Try.prog 44 v = some kl) : ∃ x : It, v = .agg #[.int .i64 x.f0, .int .i64 x.f1, .int .i64 x.f2] ∧ kl = litIt x.f0 x.f1 x.f2 ∧ (Lit.int .i64 x.f0).wf = true ∧ (Lit.int .i64 x.f1).wf = true ∧ (Lit.int .i64 x.f2).wf = true := by
  have h0 := h
  unfold keyOf at h
  rw [Try.underlying44] at h
  simp only at h
  split at h
  · rename_i hc
    obtain ⟨m, hm⟩ := typesPos
    obtain ⟨ls, hl, rfl⟩ := Option.map_eq_some_iff.1 h
    have hf : v.formed Try.prog 44 = true := by simp only [Bool.and_eq_true] at hc; exact hc.2
    obtain ⟨cs, rfl⟩ : ∃ cs, v = .agg cs := by
      cases v <;> simp [Value.formed, Try.underlying44] at hf
      exact ⟨_, rfl⟩
    rw [hm] at hl
    unfold Program.keyLits at hl
    rw [Try.underlying44] at hl
    obtain ⟨cl⟩ := cs
    simp [Value.cells, cellsItI, cellsInt] at hl
    obtain ⟨hlen, hl⟩ := hl
    match cl, hlen with
    | [c0, c1, c2], _ =>
      simp at hl
      cases e0 : Try.prog.keyLits (m + 1) 3 [c0] with
      | none => rw [e0] at hl; simp at hl
      | some l0 =>
        cases e1 : Try.prog.keyLits (m + 1) 3 [c1] with
        | none => rw [e0, e1] at hl; simp at hl
        | some l1 =>
          cases e2 : Try.prog.keyLits (m + 1) 3 [c2] with
          | none => rw [e0, e1, e2] at hl; simp at hl
          | some l2 =>
            rw [e0, e1, e2] at hl
            obtain ⟨n0, g0, rfl, w0⟩ := keyLits_int e0
            obtain ⟨n1, g1, rfl, w1⟩ := keyLits_int e1
            obtain ⟨n2, g2, rfl, w2⟩ := keyLits_int e2
            simp at hl g0 g1 g2
            subst g0 g1 g2 hl
            exact ⟨⟨n0, n1, n2⟩, rfl, rfl, w0, w1, w2⟩
  · cases h
end Go.Proofs.Ytbbkimgadohdkaa.X
