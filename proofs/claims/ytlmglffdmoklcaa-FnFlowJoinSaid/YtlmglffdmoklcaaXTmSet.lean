/- Sets of times by a map, lists of all times. Conditions: none. -/
import Derived.Test.YtlmglffdmoklcaaXBt1
namespace Go.Proofs.Ytlmglffdmoklcaa.X
open Go.RowKit Go.WideElems Go.MapKept Go.ChangeMaps Go.ChangeShapes Go.WideShapes Go.Proofs.YtlmglffdmoklcaaW.PrintWords
open Go.WideMaps (KeyLaw)
open Go.Maps (Keyed)
set_option linter.unusedVariables false
set_option linter.unusedSimpArgs false

/-- all times, in order -/
def allTm : List Tm := (List.range 64).map fun n => ⟨((n / 8 : Nat) : Int), ((n % 8 : Nat) : Int)⟩
theorem allTm_len : allTm.length = 64 := by simp [allTm]
theorem allTm_at {a b : Nat} (ha : a < 8) (hb : b < 8) : allTm[8 * a + b]? = some ⟨(a : Int), (b : Int)⟩ := by
  unfold allTm
  rw [List.getElem?_map, List.getElem?_range (by omega)]
  simp only [Option.map_some]
  rw [show (8 * a + b) / 8 = a by omega, show (8 * a + b) % 8 = b by omega]
theorem allTm_ok : ∀ t ∈ allTm, tOk t = true := fun t ht => by
  unfold allTm at ht
  obtain ⟨n, hn, rfl⟩ := List.mem_map.1 ht
  have := List.mem_range.1 hn
  simp only [tOk, Bool.and_eq_true, decide_eq_true_eq]; omega
theorem mem_allTm {t : Tm} (h : tOk t = true) : t ∈ allTm := by
  simp only [tOk, Bool.and_eq_true, decide_eq_true_eq] at h
  obtain ⟨a, ha⟩ := Int.eq_ofNat_of_zero_le h.1.1.1
  obtain ⟨b, hb⟩ := Int.eq_ofNat_of_zero_le h.1.2
  have e : t = ⟨(a : Int), (b : Int)⟩ := Tm.ext' ha hb
  rw [e]
  exact List.mem_of_getElem? (allTm_at (a := a) (b := b) (by omega) (by omega))
/-- the times of a set, in order -/
def timesL (S : Tm → Bool) : List Tm := allTm.filter S
theorem timesL_snoc (S : Tm → Bool) {a b : Nat} (ha : a < 8) (hb : b < 8) : (allTm.take (8 * a + b + 1)).filter S = (allTm.take (8 * a + b)).filter S ++ (if S ⟨(a : Int), (b : Int)⟩ = true then [⟨(a : Int), (b : Int)⟩] else []) := by
  rw [take_snoc (allTm_at ha hb), List.filter_append]
  by_cases h : S ⟨(a : Int), (b : Int)⟩ = true
  · rw [if_pos h, List.filter_cons_of_pos h]; rfl
  · rw [if_neg h, List.filter_cons_of_neg h]; rfl
theorem timesL_len (S : Tm → Bool) (n : Nat) : ((allTm.take n).filter S).length ≤ 64 := by
  have h1 := List.length_filter_le S (allTm.take n)
  have h2 : (allTm.take n).length ≤ 64 := by rw [List.length_take, allTm_len]; omega
  omega
theorem mem_timesL {S : Tm → Bool} {t : Tm} : t ∈ timesL S ↔ tOk t = true ∧ S t = true := by
  unfold timesL
  rw [List.mem_filter]
  exact ⟨fun h => ⟨allTm_ok t h.1, h.2⟩, fun h => ⟨mem_allTm h.1, h.2⟩⟩
/-- the times of rows -/
def batchTimes (l : List Rw) : List Tm := if rowsOk l then timesL (fun t => l.any fun r => decide (r.f2 = t)) else []
set_option maxRecDepth 100000 in
set_option maxHeartbeats 4000000 in
theorem laws_lwAll (w : World) : Calls Try.prog 20 #[] w (RetR kTm 34 w allTm) := by
  have HN := Aside0.mk (R_none (d := kTm) (e := 34) (base := w.heap.size) (ok := okT) (blk_new w (.cells #[] 34)) (Nat.le_refl _) trivial)
  have HB := Aside0.mk (Below.refl w.heap.size w)
  go_enter Try.func20, Try.ntmps20
  replace HB := Aside0.mk (below_alloc HB.out (.cells #[] 34))
  go_wp2
  go_loopw [1, 2] (fun o i wr => ∃ (k : Nat), k ≤ 8 ∧ i = .int .i64 k ∧ Aside0 (kTm.R 34 wr w.heap.size okT o (allTm.take (8 * k))) ∧ Aside0 (Below w.heap.size w wr)) (fun _ i _ => 8 - (intOf i).toNat)
  case atStart => exact ⟨0, Nat.zero_le _, rfl, HN, HB⟩
  case round =>
    clear HB HN
    obtain ⟨k, hk, rfl, HO, HB⟩ := hrel
    by_cases hlt : k < 8
    · have hlt' : (k : Int) ≤ 7 := by omega
      go_wp2
      go_loopw [1, 3] (fun o i wr => ∃ (j : Nat), j ≤ 8 ∧ i = .int .i64 j ∧ Aside0 (kTm.R 34 wr w.heap.size okT o (allTm.take (8 * k + j))) ∧ Aside0 (Below w.heap.size w wr)) (fun _ i _ => 8 - (intOf i).toNat)
      case atStart => exact ⟨0, Nat.zero_le _, rfl, HO, HB⟩
      case round =>
        clear HO HB
        obtain ⟨j, hj, rfl, HO, HB⟩ := hrel
        have hpl : (allTm.take (8 * k + j)).length ≤ 64 := by rw [List.length_take, allTm_len]; omega
        by_cases hlt2 : j < 8
        · have hlt3 : (j : Int) ≤ 7 := by omega
          go_wp2_with (at_builtin; refine appTm (w0 := w) (base := w.heap.size) (xs := allTm.take (8 * k + j)) (ok := okT) rfl rfl rfl HO.out (fun _ _ => trivial) HB.out (by have := HB.out.size; omega) (by omega) ?_; intro v1 w1 hr1 hb1 hg1 ha1; have HO2 := Aside0.mk hr1; have HG_ := Aside0.mk hg1; replace HB := Aside0.mk hb1; clear hr1 hb1 hg1 ha1)
          go_roundw
          case rel => exact ⟨j + 1, by omega, by go_num, ⟨by rw [← Nat.add_assoc, take_snoc (allTm_at hlt hlt2)]; exact HO2.out⟩, HB⟩
          case measure => simp [intOf]; omega
        · obtain rfl : j = 8 := by omega
          go_wp2
          go_roundw
          case rel => exact ⟨k + 1, by omega, by go_num, ⟨by rw [Nat.mul_add]; exact HO.out⟩, HB⟩
          case measure => simp [intOf]; omega
    · obtain rfl : k = 8 := by omega
      rw [List.take_of_length_le (by rw [allTm_len]; omega)] at HO
      go_wp2
      go_ret
      exact RetR.mk HO.out HB.out
def wfT (t : Tm) : Prop := wfI t.f0 ∧ wfI t.f1
/-- a map tells a set of times -/
structure MapT (S : Tm → Bool) (D : DataW Unit) : Prop where
  im : Maps.IsMap D
  at_ : ∀ t, wfT t → D.atKey (litTm t.f0 t.f1) (.lit (.bool false)) = .lit (.bool (S t))
theorem litTm_inj {s t : Tm} (h : wfT s) (k : wfT t) (e : litTm s.f0 s.f1 = litTm t.f0 t.f1) : s = t := by
  have h1 := keyTm h.1 h.2
  have h2 := keyTm k.1 k.2
  rw [e] at h1
  have := (Keyed.of_law lawTm).inj h1 h2
  simp at this
  exact Tm.ext' this.1 this.2
theorem MapT.start : MapT (fun _ => false) (.map []) := ⟨⟨[], rfl⟩, fun _ _ => rfl⟩
theorem MapT.put {S S' : Tm → Bool} {D : DataW Unit} (h : MapT S D) {x : Tm} (hx : wfT x) (e : ∀ t, S' t = (S t || decide (t = x))) : MapT S' (D.put (litTm x.f0 x.f1) (.lit (.bool true))) := by
  refine ⟨?_, fun t ht => ?_⟩
  · obtain ⟨es, rfl⟩ := h.im; exact ⟨_, rfl⟩
  · rw [e]
    by_cases he : t = x
    · subst he
      rw [Maps.atKey_put_same h.im ((Keyed.of_law lawTm).key (keyTm hx.1 hx.2)), decide_eq_true rfl, Bool.or_true]
    · rw [Maps.atKey_put_other (fun e2 => he (litTm_inj ht hx e2)), h.at_ t ht, decide_eq_false he, Bool.or_false]
theorem MapT.look {S : Tm → Bool} {D : DataW Unit} (h : MapT S D) {t : Tm} (ht : wfT t) {c : Bool} (hat : D.atKey (litTm t.f0 t.f1) (.lit (.bool false)) = .lit (.bool c)) {x : Bool} (hx : S t = x) : c = x := by
  rw [h.at_ t ht] at hat
  have : S t = c := by simpa using hat
  rw [← this, hx]
theorem plainElem_bool_inv {H : Type} {P : Program} {e : TypeId} (he : P.underlying e = some .bool) {v : Value} {z : DataW H × List MemPlace} (h : plainElem P e v = some z) : ∃ x, v = .bool x ∧ z = (.lit (.bool x), []) := by
  unfold plainElem at h
  rw [he] at h
  cases v <;> simp at h
  exact ⟨_, rfl, h.symm⟩
theorem wpList_lookup_own_bool {H : Type} {P : Program} (w : World) {ops : Array Oper} {rest : List Oper} {o : Oper} {a : Act} {Q : Exit → Act → World → Prop}
    (hg : o.guard = none) (m x : Operand) (t : TypeId) (hop : o.op = Op.lookup t m x false)
    (k e : TypeId) (K : Keyed P k) (ht : P.underlying t = some (.map k e)) (he : P.underlying e = some .bool) (hz : (zeroValue e).run P w = .ok (.bool false) w) (b n : Nat) (D : DataW H)
    (hm : a.eval m = .map (some b)) (hown : w.ownsMap P k (plainElem P e) b n D) (key : Value) (kl : Lit) (hx : a.eval x = key) (hkey : keyOf P k key = some kl)
    (hK : ∀ c : Bool, D.atKey kl (.lit (.bool false)) = .lit (.bool c) → wpList P ops Q rest (a.put o.dst (.bool c)) w) :
    wpList P ops Q (o :: rest) a w := by
  refine wpList_plain hg fun K' hK' => ?_
  obtain ⟨v, ps, hrun, hv⟩ := hown.lookup K ht hz (plainElem_bool he false) hkey
  obtain ⟨c, rfl, hc⟩ := plainElem_bool_inv he hv
  simp only [Prod.mk.injEq] at hc
  unfold Oper.wp
  simp [execOp, hop, hm, hx, hrun, Result.andThen]
  exact hK' _ _ (hK c hc.1)
theorem zeroB (w : World) : (zeroValue 4).run Try.prog w = .ok (.bool false) w := by kernel_rfl
theorem wfT_nat {a b : Nat} (ha : a < 8) (hb : b < 8) : wfT ⟨(a : Int), (b : Int)⟩ := ⟨wf_of (by show (-9223372036854775808 : Int) ≤ a; omega) (by show (a : Int) ≤ _; omega), wf_of (by show (-9223372036854775808 : Int) ≤ b; omega) (by show (b : Int) ≤ _; omega)⟩
/-- the map of a set of times -/
def OwnT (w : World) (b n : Nat) (S : Tm → Bool) : Prop := ∃ D, w.ownsMap Try.prog 34 (plainElem (H := Unit) Try.prog 4) b n D ∧ MapT S D
theorem OwnT.below {w w' : World} {b n B : Nat} {S : Tm → Bool} (h : OwnT w b n S) (hb : Below B w w') (hB : b < B) : OwnT w' b n S := by
  obtain ⟨D, ⟨es, clock, h1, h2, h3, h4⟩, hM⟩ := h
  exact ⟨D, ⟨es, clock, (hb.block b hB).trans h1, h2, h3, h4⟩, hM⟩
set_option maxRecDepth 100000 in
set_option maxHeartbeats 4000000 in
theorem impl_timesOf (b n : Nat) (S : Tm → Bool) (w : World) (h : OwnT w b n S) : Calls Try.prog 110 #[.map (some b)] w (RetR kTm 34 w (timesL S)) := by
  have hbl : b < w.heap.size := by obtain ⟨D, ho, _⟩ := h; exact ho.lt
  have HM := Aside0.mk h
  clear h
  have HN := Aside0.mk (R_none (d := kTm) (e := 34) (base := w.heap.size) (ok := okT) (blk_new w (.cells #[] 34)) (Nat.le_refl _) trivial)
  have HB := Aside0.mk (Below.refl w.heap.size w)
  go_enter Try.func110, Try.ntmps110
  replace HB := Aside0.mk (below_alloc HB.out (.cells #[] 34))
  go_wp2
  go_loopw [3, 4] (fun o i wr => ∃ (k : Nat), k ≤ 8 ∧ i = .int .i64 k ∧ Aside0 (kTm.R 34 wr w.heap.size okT o ((allTm.take (8 * k)).filter S)) ∧ Aside0 (Below w.heap.size w wr)) (fun _ i _ => 8 - (intOf i).toNat)
  case atStart => exact ⟨0, Nat.zero_le _, rfl, HN, HB⟩
  case round =>
    clear HB HN
    obtain ⟨k, hk, rfl, HO, HB⟩ := hrel
    by_cases hlt : k < 8
    · have hlt' : (k : Int) ≤ 7 := by omega
      go_wp2
      go_loopw [3, 5] (fun o i wr => ∃ (j : Nat), j ≤ 8 ∧ i = .int .i64 j ∧ Aside0 (kTm.R 34 wr w.heap.size okT o ((allTm.take (8 * k + j)).filter S)) ∧ Aside0 (Below w.heap.size w wr)) (fun _ i _ => 8 - (intOf i).toNat)
      case atStart => exact ⟨0, Nat.zero_le _, rfl, HO, HB⟩
      case round =>
        clear HO HB
        obtain ⟨j, hj, rfl, HO, HB⟩ := hrel
        have hpl := timesL_len S (8 * k + j)
        by_cases hlt2 : j < 8
        · have hlt3 : (j : Int) ≤ 7 := by omega
          have hwf := wfT_nat hlt hlt2
          obtain ⟨D, hown, hMT⟩ := HM.out.below HB.out hbl
          have HOW := Aside0.mk hown
          have HMT := Aside0.mk hMT
          clear hown hMT
          cases hS : S ⟨(k : Int), (j : Int)⟩
          · have HS := Aside0.mk hS
            clear hS
            go_wp2_with (at_lookup; refine wpList_lookup_own_bool _ rfl _ _ 114 rfl 34 4 (Keyed.of_law lawTm) Try.underlying114 Try.underlying4 (zeroB _) b n D rfl HOW.out _ _ rfl (keyTm hwf.1 hwf.2) ?_; intro c hat; obtain rfl : c = false := HMT.out.look hwf hat HS.out; clear hat)
            go_roundw
            case rel => exact ⟨j + 1, by omega, by go_num, ⟨by rw [← Nat.add_assoc, timesL_snoc S hlt hlt2, HS.out]; simpa using HO.out⟩, HB⟩
            case measure => simp [intOf]; omega
          · have HS := Aside0.mk hS
            clear hS
            go_wp2_with (first
              | (at_lookup; refine wpList_lookup_own_bool _ rfl _ _ 114 rfl 34 4 (Keyed.of_law lawTm) Try.underlying114 Try.underlying4 (zeroB _) b n D rfl HOW.out _ _ rfl (keyTm hwf.1 hwf.2) ?_; intro c hat; obtain rfl : c = true := HMT.out.look hwf hat HS.out; clear hat)
              | (at_builtin; refine appTm (w0 := w) (base := w.heap.size) (xs := (allTm.take (8 * k + j)).filter S) (ok := okT) rfl rfl rfl HO.out (fun _ _ => trivial) HB.out (by have := HB.out.size; omega) (by omega) ?_; intro v1 w1 hr1 hb1 hg1 ha1; have HO2 := Aside0.mk hr1; have HG_ := Aside0.mk hg1; replace HB := Aside0.mk hb1; clear hr1 hb1 hg1 ha1))
            go_roundw
            case rel => exact ⟨j + 1, by omega, by go_num, ⟨by rw [← Nat.add_assoc, timesL_snoc S hlt hlt2, HS.out]; exact HO2.out⟩, HB⟩
            case measure => simp [intOf]; omega
        · obtain rfl : j = 8 := by omega
          go_wp2
          go_roundw
          case rel => exact ⟨k + 1, by omega, by go_num, ⟨by rw [Nat.mul_add]; exact HO.out⟩, HB⟩
          case measure => simp [intOf]; omega
    · obtain rfl : k = 8 := by omega
      rw [List.take_of_length_le (by rw [allTm_len]; omega)] at HO
      go_wp2
      go_ret
      exact RetR.mk HO.out HB.out
end Go.Proofs.Ytlmglffdmoklcaa.X
