/- Sets of times. Conditions: none. -/
import Derived.Test.YthljcnlmeefcjaaGreatYMSb
import Derived.Test.YthljcnlmeefcjaaGreatYMLw
import Derived.RegionTactic
import Derived.BigRegion
namespace Go.Proofs.YthljcnlmeefcjaaGreat.X
open Go.RowKit Go.WideElems Go.MapKept Go.ChangeMaps Go.ChangeShapes Go.WideShapes Go.Proofs.YthljcnlmeefcjaaGreatW.PrintWords
open Go.WideMaps (KeyLaw)
open Go.Maps (Keyed)
set_option linter.unusedVariables false
set_option linter.unusedSimpArgs false

/-- all times, in order -/
def allTm : List Tm := (List.range 64).map fun n => ⟨((n / 8 : Nat) : Int), ((n % 8 : Nat) : Int)⟩
theorem allTm_len : allTm.length = 64 := by simp [allTm]
theorem allTm_at {a b : Nat} (ha : a < 8) (hb : b < 8) : allTm[8 * a + b]? = some ⟨(a : Int), (b : Int)⟩ := by
  unfold allTm
  rw [List.getElem?_map, List.getElem?_range (by omega)]
  simp only [Option.map_some]
  rw [show (8 * a + b) / 8 = a by omega, show (8 * a + b) % 8 = b by omega]
theorem allTm_ok : ∀ t ∈ allTm, tOk t = true := fun t ht => by
  unfold allTm at ht
  obtain ⟨n, hn, rfl⟩ := List.mem_map.1 ht
  have := List.mem_range.1 hn
  simp only [tOk, Bool.and_eq_true, decide_eq_true_eq]; omega
theorem mem_allTm {t : Tm} (h : tOk t = true) : t ∈ allTm := by
  simp only [tOk, Bool.and_eq_true, decide_eq_true_eq] at h
  obtain ⟨a, ha⟩ := Int.eq_ofNat_of_zero_le h.1.1.1
  obtain ⟨b, hb⟩ := Int.eq_ofNat_of_zero_le h.1.2
  have e : t = ⟨(a : Int), (b : Int)⟩ := Tm.ext' ha hb
  rw [e]
  exact List.mem_of_getElem? (allTm_at (a := a) (b := b) (by omega) (by omega))
/-- the times of a set, in order -/
def timesL (S : Tm → Bool) : List Tm := allTm.filter S
theorem timesL_snoc (S : Tm → Bool) {a b : Nat} (ha : a < 8) (hb : b < 8) : (allTm.take (8 * a + b + 1)).filter S = (allTm.take (8 * a + b)).filter S ++ (if S ⟨(a : Int), (b : Int)⟩ = true then [⟨(a : Int), (b : Int)⟩] else []) := by
  rw [take_snoc (allTm_at ha hb), List.filter_append]
  by_cases h : S ⟨(a : Int), (b : Int)⟩ = true
  · rw [if_pos h, List.filter_cons_of_pos h]; rfl
  · rw [if_neg h, List.filter_cons_of_neg h]; rfl
theorem timesL_len (S : Tm → Bool) (n : Nat) : ((allTm.take n).filter S).length ≤ 64 := by
  have h1 := List.length_filter_le S (allTm.take n)
  have h2 : (allTm.take n).length ≤ 64 := by rw [List.length_take, allTm_len]; omega
  omega
theorem mem_timesL {S : Tm → Bool} {t : Tm} : t ∈ timesL S ↔ tOk t = true ∧ S t = true := by
  unfold timesL
  rw [List.mem_filter]
  exact ⟨fun h => ⟨allTm_ok t h.1, h.2⟩, fun h => ⟨mem_allTm h.1, h.2⟩⟩
set_option maxRecDepth 100000 in
set_option maxHeartbeats 4000000 in
theorem laws_lwAll (w : World) : Calls Tryz.prog 20 #[] w (RetR kTm 49 w allTm) := by
  have HN := Aside0.mk (R_none (d := kTm) (e := 49) (base := w.heap.size) (ok := okT) (blk_new w (.cells #[] 49)) (Nat.le_refl _) trivial)
  have HB := Aside0.mk (Below.refl w.heap.size w)
  go_enter Tryz.func20, Tryz.ntmps20
  replace HB := Aside0.mk (below_alloc HB.out (.cells #[] 49))
  go_wp2
  go_loopw [1, 2] (fun o i wr => ∃ (k : Nat), k ≤ 8 ∧ i = .int .i64 k ∧ Aside0 (kTm.R 49 wr w.heap.size okT o (allTm.take (8 * k))) ∧ Aside0 (Below w.heap.size w wr)) (fun _ i _ => 8 - (intOf i).toNat)
  case atStart => exact ⟨0, Nat.zero_le _, rfl, HN, HB⟩
  case round =>
    clear HB HN
    obtain ⟨k, hk, rfl, HO, HB⟩ := hrel
    by_cases hlt : k < 8
    · have hlt' : (k : Int) ≤ 7 := by omega
      go_wp2
      go_loopw [1, 3] (fun o i wr => ∃ (j : Nat), j ≤ 8 ∧ i = .int .i64 j ∧ Aside0 (kTm.R 49 wr w.heap.size okT o (allTm.take (8 * k + j))) ∧ Aside0 (Below w.heap.size w wr)) (fun _ i _ => 8 - (intOf i).toNat)
      case atStart => exact ⟨0, Nat.zero_le _, rfl, HO, HB⟩
      case round =>
        clear HO HB
        obtain ⟨j, hj, rfl, HO, HB⟩ := hrel
        have hpl : (allTm.take (8 * k + j)).length ≤ 64 := by rw [List.length_take, allTm_len]; omega
        by_cases hlt2 : j < 8
        · have hlt3 : (j : Int) ≤ 7 := by omega
          go_wp2_with (at_builtin; refine appTm (w0 := w) (base := w.heap.size) (xs := allTm.take (8 * k + j)) (ok := okT) rfl rfl rfl HO.out (fun _ _ => trivial) HB.out (by have := HB.out.size; omega) (by omega) ?_; intro v1 w1 hr1 hb1 hg1 ha1; have HO2 := Aside0.mk hr1; have HG_ := Aside0.mk hg1; replace HB := Aside0.mk hb1; clear hr1 hb1 hg1 ha1)
          go_roundw
          case rel => exact ⟨j + 1, by omega, by go_num, ⟨by rw [← Nat.add_assoc, take_snoc (allTm_at hlt hlt2)]; exact HO2.out⟩, HB⟩
          case measure => simp [intOf]; omega
        · obtain rfl : j = 8 := by omega
          go_wp2
          go_roundw
          case rel => exact ⟨k + 1, by omega, by go_num, ⟨by rw [Nat.mul_add]; exact HO.out⟩, HB⟩
          case measure => simp [intOf]; omega
    · obtain rfl : k = 8 := by omega
      rw [List.take_of_length_le (by rw [allTm_len]; omega)] at HO
      go_wp2
      go_ret
      exact RetR.mk HO.out HB.out
def wfT (t : Tm) : Prop := wfI t.f0 ∧ wfI t.f1
/-- a map tells a set of times -/
structure MapT (S : Tm → Bool) (D : DataW Unit) : Prop where
  im : Maps.IsMap D
  at_ : ∀ t, wfT t → D.atKey (litTm t.f0 t.f1) (.lit (.bool false)) = .lit (.bool (S t))
theorem litTm_inj {s t : Tm} (h : wfT s) (k : wfT t) (e : litTm s.f0 s.f1 = litTm t.f0 t.f1) : s = t := by
  have h1 := keyTm h.1 h.2
  have h2 := keyTm k.1 k.2
  rw [e] at h1
  have := (Keyed.of_law lawTm).inj h1 h2
  simp at this
  exact Tm.ext' this.1 this.2
theorem MapT.start : MapT (fun _ => false) (.map []) := ⟨⟨[], rfl⟩, fun _ _ => rfl⟩
theorem MapT.put {S S' : Tm → Bool} {D : DataW Unit} (h : MapT S D) {x : Tm} (hx : wfT x) (e : ∀ t, S' t = (S t || decide (t = x))) : MapT S' (D.put (litTm x.f0 x.f1) (.lit (.bool true))) := by
  refine ⟨?_, fun t ht => ?_⟩
  · obtain ⟨es, rfl⟩ := h.im; exact ⟨_, rfl⟩
  · rw [e]
    by_cases he : t = x
    · subst he
      rw [Maps.atKey_put_same h.im ((Keyed.of_law lawTm).key (keyTm hx.1 hx.2)), decide_eq_true rfl, Bool.or_true]
    · rw [Maps.atKey_put_other (fun e2 => he (litTm_inj ht hx e2)), h.at_ t ht, decide_eq_false he, Bool.or_false]
theorem MapT.look {S : Tm → Bool} {D : DataW Unit} (h : MapT S D) {t : Tm} (ht : wfT t) {c : Bool} (hat : D.atKey (litTm t.f0 t.f1) (.lit (.bool false)) = .lit (.bool c)) {x : Bool} (hx : S t = x) : c = x := by
  rw [h.at_ t ht] at hat
  have : S t = c := by simpa using hat
  rw [← this, hx]
theorem plainElem_bool_inv {H : Type} {P : Program} {e : TypeId} (he : P.underlying e = some .bool) {v : Value} {z : DataW H × List MemPlace} (h : plainElem P e v = some z) : ∃ x, v = .bool x ∧ z = (.lit (.bool x), []) := by
  unfold plainElem at h
  rw [he] at h
  cases v <;> simp at h
  exact ⟨_, rfl, h.symm⟩
theorem wpList_lookup_own_bool {H : Type} {P : Program} (w : World) {ops : Array Oper} {rest : List Oper} {o : Oper} {a : Act} {Q : Exit → Act → World → Prop}
    (hg : o.guard = none) (m x : Operand) (t : TypeId) (hop : o.op = Op.lookup t m x false)
    (k e : TypeId) (K : Keyed P k) (ht : P.underlying t = some (.map k e)) (he : P.underlying e = some .bool) (hz : (zeroValue e).run P w = .ok (.bool false) w) (b n : Nat) (D : DataW H)
    (hm : a.eval m = .map (some b)) (hown : w.ownsMap P k (plainElem P e) b n D) (key : Value) (kl : Lit) (hx : a.eval x = key) (hkey : keyOf P k key = some kl)
    (hK : ∀ c : Bool, D.atKey kl (.lit (.bool false)) = .lit (.bool c) → wpList P ops Q rest (a.put o.dst (.bool c)) w) :
    wpList P ops Q (o :: rest) a w := by
  refine wpList_plain hg fun K' hK' => ?_
  obtain ⟨v, ps, hrun, hv⟩ := hown.lookup K ht hz (plainElem_bool he false) hkey
  obtain ⟨c, rfl, hc⟩ := plainElem_bool_inv he hv
  simp only [Prod.mk.injEq] at hc
  unfold Oper.wp
  simp [execOp, hop, hm, hx, hrun, Result.andThen]
  exact hK' _ _ (hK c hc.1)
theorem zeroB (w : World) : (zeroValue 4).run Tryz.prog w = .ok (.bool false) w := by kernel_rfl
theorem wfT_nat {a b : Nat} (ha : a < 8) (hb : b < 8) : wfT ⟨(a : Int), (b : Int)⟩ := ⟨wf_of (by show (-9223372036854775808 : Int) ≤ a; omega) (by show (a : Int) ≤ _; omega), wf_of (by show (-9223372036854775808 : Int) ≤ b; omega) (by show (b : Int) ≤ _; omega)⟩
/-- the map of a set of times -/
def OwnT (w : World) (b n : Nat) (S : Tm → Bool) : Prop := ∃ D, w.ownsMap Tryz.prog 49 (plainElem (H := Unit) Tryz.prog 4) b n D ∧ MapT S D
theorem OwnT.below {w w' : World} {b n B : Nat} {S : Tm → Bool} (h : OwnT w b n S) (hb : Below B w w') (hB : b < B) : OwnT w' b n S := by
  obtain ⟨D, ⟨es, clock, h1, h2, h3, h4⟩, hM⟩ := h
  exact ⟨D, ⟨es, clock, (hb.block b hB).trans h1, h2, h3, h4⟩, hM⟩
set_option maxRecDepth 100000 in
set_option maxHeartbeats 4000000 in
theorem impl_timesOf (b n : Nat) (S : Tm → Bool) (w : World) (h : OwnT w b n S) : Calls Tryz.prog 93 #[.map (some b)] w (RetR kTm 49 w (timesL S)) := by
  have hbl : b < w.heap.size := by obtain ⟨D, ho, _⟩ := h; exact ho.lt
  have HM := Aside0.mk h
  clear h
  have HN := Aside0.mk (R_none (d := kTm) (e := 49) (base := w.heap.size) (ok := okT) (blk_new w (.cells #[] 49)) (Nat.le_refl _) trivial)
  have HB := Aside0.mk (Below.refl w.heap.size w)
  go_enter Tryz.func93, Tryz.ntmps93
  replace HB := Aside0.mk (below_alloc HB.out (.cells #[] 49))
  go_wp2
  go_loopw [3, 4] (fun o i wr => ∃ (k : Nat), k ≤ 8 ∧ i = .int .i64 k ∧ Aside0 (kTm.R 49 wr w.heap.size okT o ((allTm.take (8 * k)).filter S)) ∧ Aside0 (Below w.heap.size w wr)) (fun _ i _ => 8 - (intOf i).toNat)
  case atStart => exact ⟨0, Nat.zero_le _, rfl, HN, HB⟩
  case round =>
    clear HB HN
    obtain ⟨k, hk, rfl, HO, HB⟩ := hrel
    by_cases hlt : k < 8
    · have hlt' : (k : Int) ≤ 7 := by omega
      go_wp2
      go_loopw [3, 5] (fun o i wr => ∃ (j : Nat), j ≤ 8 ∧ i = .int .i64 j ∧ Aside0 (kTm.R 49 wr w.heap.size okT o ((allTm.take (8 * k + j)).filter S)) ∧ Aside0 (Below w.heap.size w wr)) (fun _ i _ => 8 - (intOf i).toNat)
      case atStart => exact ⟨0, Nat.zero_le _, rfl, HO, HB⟩
      case round =>
        clear HO HB
        obtain ⟨j, hj, rfl, HO, HB⟩ := hrel
        have hpl := timesL_len S (8 * k + j)
        by_cases hlt2 : j < 8
        · have hlt3 : (j : Int) ≤ 7 := by omega
          have hwf := wfT_nat hlt hlt2
          obtain ⟨D, hown, hMT⟩ := HM.out.below HB.out hbl
          have HOW := Aside0.mk hown
          have HMT := Aside0.mk hMT
          clear hown hMT
          cases hS : S ⟨(k : Int), (j : Int)⟩
          · have HS := Aside0.mk hS
            clear hS
            go_wp2_with (at_lookup; refine wpList_lookup_own_bool _ rfl _ _ 108 rfl 49 4 (Keyed.of_law lawTm) Tryz.underlying108 Tryz.underlying4 (zeroB _) b n D rfl HOW.out _ _ rfl (keyTm hwf.1 hwf.2) ?_; intro c hat; obtain rfl : c = false := HMT.out.look hwf hat HS.out; clear hat)
            go_roundw
            case rel => exact ⟨j + 1, by omega, by go_num, ⟨by rw [← Nat.add_assoc, timesL_snoc S hlt hlt2, HS.out]; simpa using HO.out⟩, HB⟩
            case measure => simp [intOf]; omega
          · have HS := Aside0.mk hS
            clear hS
            go_wp2_with (first
              | (at_lookup; refine wpList_lookup_own_bool _ rfl _ _ 108 rfl 49 4 (Keyed.of_law lawTm) Tryz.underlying108 Tryz.underlying4 (zeroB _) b n D rfl HOW.out _ _ rfl (keyTm hwf.1 hwf.2) ?_; intro c hat; obtain rfl : c = true := HMT.out.look hwf hat HS.out; clear hat)
              | (at_builtin; refine appTm (w0 := w) (base := w.heap.size) (xs := (allTm.take (8 * k + j)).filter S) (ok := okT) rfl rfl rfl HO.out (fun _ _ => trivial) HB.out (by have := HB.out.size; omega) (by omega) ?_; intro v1 w1 hr1 hb1 hg1 ha1; have HO2 := Aside0.mk hr1; have HG_ := Aside0.mk hg1; replace HB := Aside0.mk hb1; clear hr1 hb1 hg1 ha1))
            go_roundw
            case rel => exact ⟨j + 1, by omega, by go_num, ⟨by rw [← Nat.add_assoc, timesL_snoc S hlt hlt2, HS.out]; exact HO2.out⟩, HB⟩
            case measure => simp [intOf]; omega
        · obtain rfl : j = 8 := by omega
          go_wp2
          go_roundw
          case rel => exact ⟨k + 1, by omega, by go_num, ⟨by rw [Nat.mul_add]; exact HO.out⟩, HB⟩
          case measure => simp [intOf]; omega
    · obtain rfl : k = 8 := by omega
      rw [List.take_of_length_le (by rw [allTm_len]; omega)] at HO
      go_wp2
      go_ret
      exact RetR.mk HO.out HB.out
end Go.Proofs.YthljcnlmeefcjaaGreat.X

namespace Go.Proofs.YthljcnlmeefcjaaGreat.X
open Go.RowKit Go.WideElems Go.MapKept Go.ChangeMaps Go.ChangeShapes Go.WideShapes Go.Proofs.YthljcnlmeefcjaaGreatW.PrintWords
open Go.WideMaps (KeyLaw)
open Go.Maps (Keyed)
set_option linter.unusedVariables false
set_option linter.unusedSimpArgs false

/-- the least set with such times that is closed under joins -/
inductive Clo (B : Tm → Prop) : Tm → Prop
  | base {t : Tm} : B t → Clo B t
  | join {s t : Tm} : Clo B s → Clo B t → Clo B (tJoin s t)
theorem tJoin_okk {s t : Tm} (hs : tOk s = true) (ht : tOk t = true) : tOk (tJoin s t) = true := by
  unfold tJoin; rw [hs, ht]
  simp only [tOk, Bool.and_eq_true, decide_eq_true_eq] at hs ht
  simp only [Bool.and_self, if_true, tOk, tmax, Bool.and_eq_true, decide_eq_true_eq]
  split <;> split <;> omega
theorem Clo.ok {B : Tm → Prop} (hB : ∀ t, B t → tOk t = true) {t : Tm} (h : Clo B t) : tOk t = true := by
  induction h with
  | base h => exact hB _ h
  | join _ _ h1 h2 => exact tJoin_okk h1 h2
def keyT (l : List Rw) (key : Int) (t : Tm) : Prop := ∃ r ∈ l, r.f0 = key ∧ r.f2 = t
theorem keyT_ok {l : List Rw} {key : Int} (h : ∀ r ∈ l, rowOk r = true) : ∀ t, keyT l key t → tOk t = true := fun t ⟨r, hr, _, e⟩ => by
  have := h r hr
  simp only [rowOk, Bool.and_eq_true] at this
  rw [← e]; exact this.1.1.2
noncomputable def cloB (B : Tm → Prop) : Tm → Bool := fun t => @decide (Clo B t) (Classical.propDecidable _)
theorem cloB_iff {B : Tm → Prop} {t : Tm} : cloB B t = true ↔ Clo B t := by unfold cloB; exact @decide_eq_true_iff _ (Classical.propDecidable _)
/-- the times of the rows of a key, and all their joins -/
noncomputable def flowTimes (l : List Rw) (key : Int) : List Tm := if rowsOk l then timesL (cloB (keyT l key)) else []
theorem timesL_congr {S S' : Tm → Bool} (h : ∀ t, tOk t = true → S t = S' t) : timesL S = timesL S' := by
  unfold timesL
  have go : ∀ l : List Tm, (∀ t ∈ l, tOk t = true) → l.filter S = l.filter S' := fun l => by
    induction l with
    | nil => intro _; rfl
    | cons x l ih => intro hl; rw [List.filter_cons, List.filter_cons, h x (hl x List.mem_cons_self), ih (fun y hy => hl y (List.mem_cons_of_mem _ hy))]
  exact go allTm allTm_ok
theorem flowTimes_of {l : List Rw} {key : Int} (hl : rowsOk l = true) {S : Tm → Bool} (h1 : ∀ t, keyT l key t → S t = true) (h2 : ∀ t, S t = true → Clo (keyT l key) t) (h3 : ∀ s t, S s = true → S t = true → S (tJoin s t) = true) : timesL S = flowTimes l key := by
  unfold flowTimes
  rw [if_pos hl]
  refine timesL_congr fun t ht => ?_
  clear ht
  rw [Bool.eq_iff_iff, cloB_iff]
  refine ⟨h2 t, fun h => ?_⟩
  induction h with
  | base h => exact h1 _ h
  | join _ _ i1 i2 => exact h3 _ _ i1 i2
def cntT (S : Tm → Bool) : Nat := (timesL S).length
theorem cntT_le (S : Tm → Bool) : cntT S ≤ 64 := by
  have := List.length_filter_le S allTm
  rw [allTm_len] at this
  exact this
theorem filter_le {S S' : Tm → Bool} (h : ∀ t, S t = true → S' t = true) : ∀ l : List Tm, (l.filter S).length ≤ (l.filter S').length
  | [] => Nat.le_refl _
  | x :: l => by
    have ih := filter_le h l
    by_cases h1 : S x = true
    · rw [List.filter_cons_of_pos h1, List.filter_cons_of_pos (h x h1), List.length_cons, List.length_cons]; omega
    · rw [List.filter_cons_of_neg h1]
      by_cases h2 : S' x = true
      · rw [List.filter_cons_of_pos h2, List.length_cons]; omega
      · rw [List.filter_cons_of_neg h2]; exact ih
theorem filter_lt {S S' : Tm → Bool} (h : ∀ t, S t = true → S' t = true) {x : Tm} (h1 : S x = false) (h2 : S' x = true) : ∀ l : List Tm, x ∈ l → (l.filter S).length < (l.filter S').length
  | y :: l, hx => by
    have ih := filter_le h l
    rcases List.mem_cons.1 hx with rfl | hx
    · rw [List.filter_cons_of_neg (by rw [h1]; simp), List.filter_cons_of_pos h2, List.length_cons]; omega
    · have := filter_lt h h1 h2 l hx
      by_cases h3 : S y = true
      · rw [List.filter_cons_of_pos h3, List.filter_cons_of_pos (h y h3), List.length_cons, List.length_cons]; omega
      · rw [List.filter_cons_of_neg h3]
        by_cases h4 : S' y = true
        · rw [List.filter_cons_of_pos h4, List.length_cons]; omega
        · rw [List.filter_cons_of_neg h4]; exact this
/-- a round of joins: what is in, whether something was put in, which pairs were seen -/
structure GrowP (B : Tm → Prop) (S S' : Tm → Bool) (ag : Bool) (done : List (Tm × Tm)) : Prop where
  sub : ∀ t, S t = true → S' t = true
  clo : ∀ t, S' t = true → Clo B t
  more : ag = true → cntT S < cntT S'
  none : ag = false → (∀ t, S' t = S t) ∧ ∀ p ∈ done, S (tJoin p.1 p.2) = true
def addT (S : Tm → Bool) (x : Tm) : Tm → Bool := fun t => S t || decide (t = x)
theorem GrowP.start {B : Tm → Prop} {S : Tm → Bool} (h : ∀ t, S t = true → Clo B t) : GrowP B S S false [] := ⟨fun _ h => h, h, fun h => (by cases h), fun _ => ⟨fun _ => rfl, fun p hp => by cases hp⟩⟩
theorem GrowP.cntT {B : Tm → Prop} {S S' : Tm → Bool} {ag : Bool} {done : List (Tm × Tm)} (h : GrowP B S S' ag done) : X.cntT S ≤ X.cntT S' := filter_le h.sub allTm
theorem GrowP.had {B : Tm → Prop} {S S' : Tm → Bool} {ag : Bool} {done : List (Tm × Tm)} (h : GrowP B S S' ag done) {s t : Tm} (hx : S' (tJoin s t) = true) : GrowP B S S' ag (done ++ [(s, t)]) :=
  ⟨h.sub, h.clo, h.more, fun e => ⟨(h.none e).1, fun p hp => by
    rcases List.mem_append.1 hp with hp | hp
    · exact (h.none e).2 p hp
    · rw [List.mem_singleton.1 hp]; rw [← (h.none e).1]; exact hx⟩⟩
theorem GrowP.put {B : Tm → Prop} (hB : ∀ t, B t → tOk t = true) {S S' : Tm → Bool} {ag : Bool} {done : List (Tm × Tm)} (h : GrowP B S S' ag done) {s t : Tm} (hs : S s = true) (ht : S t = true) (hx : S' (tJoin s t) = false) (done' : List (Tm × Tm)) :
    GrowP B S (addT S' (tJoin s t)) true done' ∧ X.cntT S' < X.cntT (addT S' (tJoin s t)) := by
  have hc : Clo B (tJoin s t) := .join (h.clo s (h.sub s hs)) (h.clo t (h.sub t ht))
  have hm : ∀ u, S' u = true → addT S' (tJoin s t) u = true := fun u hu => by unfold addT; rw [hu]; rfl
  have hl : X.cntT S' < X.cntT (addT S' (tJoin s t)) := filter_lt hm hx (by unfold addT; simp) allTm (mem_allTm (hc.ok hB))
  have := h.cntT
  exact ⟨⟨fun u hu => hm u (h.sub u hu), fun u hu => (by
    unfold addT at hu
    simp only [Bool.or_eq_true, decide_eq_true_eq] at hu
    rcases hu with hu | rfl
    · exact h.clo u hu
    · exact hc), fun _ => by omega, fun e => by cases e⟩, hl⟩
def pairsT (l m : List Tm) : List (Tm × Tm) := l.flatMap fun s => m.map fun t => (s, t)
theorem pairsT_snoc {l : List Tm} {k : Nat} {x : Tm} (hx : l[k]? = some x) (m : List Tm) : pairsT (l.take (k + 1)) m = pairsT (l.take k) m ++ m.map fun t => (x, t) := by
  rw [take_snoc hx]; unfold pairsT; rw [List.flatMap_append]; simp
theorem mapT_snoc {l : List Tm} {k : Nat} {y : Tm} (hy : l[k]? = some y) (x : Tm) : (l.take (k + 1)).map (fun t => (x, t)) = (l.take k).map (fun t => (x, t)) ++ [(x, y)] := by rw [take_snoc hy, List.map_append]; rfl
theorem mem_pairsT {l m : List Tm} {s t : Tm} (hs : s ∈ l) (ht : t ∈ m) : (s, t) ∈ pairsT l m := List.mem_flatMap.2 ⟨s, hs, List.mem_map.2 ⟨t, ht, rfl⟩⟩
/-- between two rounds -/
structure FtI (B : Tm → Prop) (S : Tm → Bool) (ag : Bool) : Prop where
  base : ∀ t, B t → S t = true
  clo : ∀ t, S t = true → Clo B t
  shut : ag = false → ∀ s t, S s = true → S t = true → S (tJoin s t) = true
theorem GrowP.done {B : Tm → Prop} (hB : ∀ t, B t → tOk t = true) {S S' : Tm → Bool} {ag : Bool} (h : GrowP B S S' ag (pairsT (timesL S) (timesL S))) (hi : ∀ t, B t → S t = true) : FtI B S' ag :=
  ⟨fun t ht => h.sub t (hi t ht), h.clo, fun e s t hs ht => by
    obtain ⟨h1, h2⟩ := h.none e
    have ms := mem_timesL.2 ⟨(h.clo s hs).ok hB, (h1 s) ▸ hs⟩
    have mt := mem_timesL.2 ⟨(h.clo t ht).ok hB, (h1 t) ▸ ht⟩
    rw [h1]; exact h2 _ (mem_pairsT ms mt)⟩
def keyS (l : List Rw) (key : Int) : Tm → Bool := fun t => l.any fun r => (r.f0 == key) && decide (r.f2 = t)
theorem keyS_iff {l : List Rw} {key : Int} {t : Tm} : keyS l key t = true ↔ keyT l key t := by
  unfold keyS keyT
  rw [List.any_eq_true]
  exact ⟨fun ⟨r, hr, h⟩ => ⟨r, hr, by simpa using h⟩, fun ⟨r, hr, h⟩ => ⟨r, hr, by simpa using h⟩⟩
theorem FtI.start (l : List Rw) (key : Int) : FtI (keyT l key) (keyS l key) true := ⟨fun t h => keyS_iff.2 h, fun t h => .base (keyS_iff.1 h), fun h => by cases h⟩
theorem OwnT.lt {w : World} {b n : Nat} {S : Tm → Bool} (h : OwnT w b n S) : b < w.heap.size := by obtain ⟨D, ho, _⟩ := h; exact ho.lt
theorem OwnT.to {w : World} {b n n' : Nat} {S S' : Tm → Bool} (h : OwnT w b n S) (hn : n ≤ n') (hS : ∀ t, S' t = S t) : OwnT w b n' S' := by
  obtain ⟨D, ho, hM⟩ := h
  exact ⟨D, ho.mono hn, hM.im, fun t ht => by rw [hS]; exact hM.at_ t ht⟩
theorem wfT_ok {t : Tm} (h : tOk t = true) : wfT t := by
  simp only [tOk, Bool.and_eq_true, decide_eq_true_eq] at h
  exact ⟨wf_of (by omega) (by omega), wf_of (by omega) (by omega)⟩
set_option maxRecDepth 100000 in
set_option maxHeartbeats 8000000 in
theorem impl_FlowTimes (v : Value) (l : List Rw) (key : Int) (w : World) (h : Sl kRw w v l) : Calls Tryz.prog 71 #[v, .int .i64 key] w (RetR kTm 49 w (flowTimes l key)) := by
  have HS := Aside0.mk h
  have hmm := @run_makeMap Tryz.prog
  cases hs : rowsOk l
  · have HB := Aside0.mk (Below.refl w.heap.size w)
    go_enter Tryz.func71, Tryz.ntmps71
    go_wp2_with (go_at_call 37; ((with_reducible refine (impl_RowsOk _ l _ (HS.out.below HB.out)).mono ?_); rintro e w' ⟨rfl, hb⟩; replace HB := Aside0.mk (bthen HB.out hb); clear hb))
    go_ret
    exact RetR.mk (by rw [flowTimes, hs]; exact Kd.R_nil _ _ _ _ _) HB.out
  · obtain ⟨a1, a2⟩ := rowsOk_all hs
    have HFit := Aside0.mk (rowsOk_fit a2)
    have HOK := Aside0.mk (keyT_ok (key := key) a2)
    have HS' := Aside0.mk hs
    clear a2
    obtain ⟨A, c_, rfl, HC, hr⟩ := h
    have hm := Kd.C_max hr
    have HR := Aside0.mk hr
    clear hr
    have HB := Aside0.mk (Below.refl w.heap.size w)
    go_enter Tryz.func71, Tryz.ntmps71
    go_upto_region 3 with (go_at_call 37; ((with_reducible refine (impl_RowsOk _ l _ (HS.out.below HB.out)).mono ?_); rintro e wm ⟨rfl, hb⟩; replace HB := Aside0.mk (bthen HB.out hb); clear hb))
    have hws := HB.out.size
    go_wp2
    go_loopw [21] (fun i wr => ∃ k : Nat, k ≤ l.length ∧ i = .int .i64 k ∧ Aside0 (OwnT wr wm.heap.size k (keyS (l.take k) key)) ∧ Aside0 (Below w.heap.size w wr)) (fun i _ => l.length - (intOf i).toNat)
    case atStart => exact ⟨0, Nat.zero_le _, rfl, ⟨⟨_, World.ownsMap_made _ _ _ _, MapT.start⟩⟩, ⟨below_alloc HB.out _⟩⟩
    case round =>
      clear HB
      obtain ⟨k, hk, rfl, HM, HB⟩ := hrel
      by_cases hlt : k < l.length
      · obtain ⟨ad, x, e, HX, h0, h1, h2, h3, h4⟩ := rdRw HR.out HB.out hlt
        cases e
        have hwf : wfT x.f2 := by have := HFit.out.all x (List.mem_of_getElem? HX.out); exact ⟨this.1.2.2.1, this.1.2.2.2⟩
        go_upto_region 7 with fail
        refine name_world fun W hW => ?_
        have B0 : W.heap[wr.heap.size]? = some (.cells #[.int .i64 x.f0, .int .i64 x.f1, .int .i64 x.f2.f0, .int .i64 x.f2.f1, .int .i64 x.f3] 65 (0, 0)) := by rw [hW]; exact blk_new wr _
        have hb1 : Below wr.heap.size wr W := by rw [hW]; repeat (first | exact Below.refl _ _ | apply below_alloc | refine below_set ?_ (by simp))
        clear hW
        generalize hX : wr.heap.size = X at B0 ⊢
        have HM1 := Aside0.mk (HM.out.below hb1 HM.out.lt)
        replace HB := Aside0.mk (bthen HB.out hb1)
        have b0 : W.cell? ⟨X, 0, none⟩ = some (.int .i64 x.f0) := blk_cell B0 0
        have b2 : W.cell? ⟨X, 2, none⟩ = some (.int .i64 x.f2.f0) := blk_cell B0 2
        have b3 : W.cell? ⟨X, 3, none⟩ = some (.int .i64 x.f2.f1) := blk_cell B0 3
        have b4 : W.cell? ⟨X, 4, none⟩ = some (.int .i64 x.f3) := blk_cell B0 4
        clear h0 h1 h2 h3 h4 hb1 hX HM
        cases hk0 : (x.f0 == key)
        · have HK := Aside0.mk hk0
          go_wp2
          go_roundw
          case rel => exact ⟨k + 1, by omega, by go_num, ⟨HM1.out.to (by omega) (fun t => by unfold keyS; rw [take_snoc HX.out, List.any_append]; simp [HK.out])⟩, HB⟩
          case measure => simp [intOf]; omega
        · have HK := Aside0.mk hk0
          obtain ⟨D, hown, hMT⟩ := HM1.out
          have HOW := Aside0.mk hown
          have HMT := Aside0.mk hMT
          clear hown hMT HM1
          go_wp2_with (at_mapUpdate; refine wpList_mapUpdate_own _ rfl _ _ _ 108 rfl 49 4 (Keyed.of_law lawTm) Tryz.underlying108 (plainElem (H := Unit) Tryz.prog 4) wm.heap.size k _ rfl HOW.out (by unfold maxLen; omega) _ _ _ rfl rfl (keyTm hwf.1 hwf.2) _ [] (plainElem_bool Tryz.underlying4 true) ?_; intro w1 hown1 hgrow1; have HM2 : Aside0 (OwnT w1 wm.heap.size (k + 1) (keyS (l.take (k + 1)) key)) := ⟨⟨_, hown1, HMT.out.put hwf (fun t => by unfold keyS; rw [take_snoc HX.out, List.any_append]; simp [HK.out, eq_comm])⟩⟩; have HB2 := Aside0.mk (HB.out.grown hgrow1 HB.out.size (fun j hj => by cases hj; exact hws)); clear hown1 hgrow1)
          go_roundw
          case rel => exact ⟨k + 1, by omega, by go_num, HM2, HB2⟩
          case measure => simp [intOf]; omega
      · obtain rfl : k = l.length := by omega
        rw [List.take_length] at HM
        have HI := Aside0.mk (FtI.start l key)
        have HFT := Aside0.mk (fun (S : Tm → Bool) h1 h2 h3 => flowTimes_of (key := key) HS'.out (S := S) h1 h2 h3)
        generalize keyS l key = S0 at *
        generalize keyT l key = B at *
        go_wp2
        go_loopg [8] 65 (fun g f wr => ∃ (S : Tm → Bool) (n : Nat) (ag : Bool), f = .bool ag ∧ n ≤ l.length + cntT S ∧ (ag = true → 65 ≤ g + cntT S) ∧ Aside0 (FtI B S ag) ∧ Aside0 (OwnT wr wm.heap.size n S) ∧ Aside0 (Below w.heap.size w wr))
        case atStart => exact ⟨S0, l.length, true, rfl, by omega, fun _ => by omega, HI, HM, HB⟩
        case round =>
          clear HI HM HB
          obtain ⟨S, n, ag, rfl, hn, hg, HI, HM, HB⟩ := hrel
          have hc64 := cntT_le S
          cases ag
          · have hfl := HFT.out S HI.out.base HI.out.clo (HI.out.shut rfl)
            go_wp2_with (go_at_call 93; ((with_reducible refine (impl_timesOf wm.heap.size n S _ HM.out).mono ?_); rintro e w' ⟨u, rfl, hr, hb⟩; have HF := Aside0.mk (Kd.R_lower hr HB.out.size); replace HB := Aside0.mk (bthen HB.out hb); clear hr hb))
            go_ret
            exact RetR.mk (by rw [← hfl]; exact HF.out) HB.out
          · have hg0 := hg rfl
            have hrw := HM.out.lt
            go_upto_region 14 with (go_at_call 93; ((with_reducible refine (impl_timesOf wm.heap.size n S _ HM.out).mono ?_); rintro e wt ⟨u, rfl, hr, hb⟩; have HT := Aside0.mk (R_off hr HM.out.lt); replace HM := Aside0.mk (HM.out.below hb HM.out.lt); replace HB := Aside0.mk (bthen HB.out hb); clear hr hb))
            obtain ⟨A5, c5, rfl, hc5, hC5⟩ := Sl.of_R HT.out
            have hm5 := Kd.C_max hC5
            clear hC5
            have HDN := Aside0.mk (fun (S' : Tm → Bool) (ag : Bool) (h : GrowP B S S' ag (pairsT (timesL S) (timesL S))) => h.done HOK.out HI.out.base)
            have HIN := Aside0.mk (fun (t : Tm) (h : t ∈ timesL S) => (mem_timesL.1 h).2)
            have HST := Aside0.mk (GrowP.start HI.out.clo)
            clear HI
            generalize timesL S = ls at *
            generalize wr.heap.size = B5 at HT
            go_wp2
            go_loopw [8, 38] (fun f i wq => ∃ (j : Nat) (S' : Tm → Bool) (n' : Nat) (ag : Bool), j ≤ ls.length ∧ i = .int .i64 j ∧ f = .bool ag ∧ n' ≤ l.length + cntT S' ∧ Aside0 (GrowP B S S' ag (pairsT (ls.take j) ls)) ∧ Aside0 (OwnT wq wm.heap.size n' S') ∧ Aside0 (kTm.R 49 wq B5 (fun q => q ≠ wm.heap.size) (.slice A5 ls.length c5) ls) ∧ Aside0 (Below w.heap.size w wq)) (fun _ i _ => ls.length - (intOf i).toNat)
            case atStart => exact ⟨0, S, n, false, Nat.zero_le _, rfl, rfl, hn, HST, HM, HT, HB⟩
            case round =>
              clear HST HM HT HB
              obtain ⟨j, S', n', ag, hj, rfl, rfl, hn', HG, HM, HT, HB⟩ := hrel
              by_cases hlt : j < ls.length
              · obtain ⟨ad, x, e, HX, h0, h1⟩ := rdTm (Kd.R_reads' HT.out).2.2 (Below.refl _ _) hlt
                cases e
                have hxS := Aside0.mk (HIN.out x (List.mem_of_getElem? HX.out))
                go_upto_region 17 with fail
                refine name_world fun W1 hW => ?_
                have BX : W1.heap[wr.heap.size]? = some (.cells #[.int .i64 x.f0, .int .i64 x.f1] 49 (0, 0)) := by rw [hW]; exact blk_new wr _
                have hb1 : Below wr.heap.size wr W1 := by rw [hW]; repeat (first | exact Below.refl _ _ | apply below_alloc | refine below_set ?_ (by simp))
                clear hW
                generalize hX : wr.heap.size = X at BX ⊢
                have hXb := HM.out.lt
                replace HM := Aside0.mk (HM.out.below hb1 HM.out.lt)
                replace HT := Aside0.mk (Kd.R_below HT.out hb1)
                replace HB := Aside0.mk (bthen HB.out hb1)
                have HX1 := Aside0.mk BX
                have hXne : wm.heap.size < X := by omega
                clear BX hX hb1 h0 h1 hXb
                go_wp2
                go_loopw [8, 44] (fun f i wq => ∃ (m : Nat) (S' : Tm → Bool) (n' : Nat) (ag : Bool), m ≤ ls.length ∧ i = .int .i64 m ∧ f = .bool ag ∧ n' ≤ l.length + cntT S' ∧ Aside0 (GrowP B S S' ag (pairsT (ls.take j) ls ++ (ls.take m).map fun t => (x, t))) ∧ Aside0 (OwnT wq wm.heap.size n' S') ∧ Aside0 (kTm.R 49 wq B5 (fun q => q ≠ wm.heap.size) (.slice (some ad) ls.length c5) ls) ∧ Aside0 (wq.heap[X]? = some (.cells #[.int .i64 x.f0, .int .i64 x.f1] 49 (0, 0))) ∧ Aside0 (Below w.heap.size w wq)) (fun _ i _ => ls.length - (intOf i).toNat)
                case atStart => exact ⟨0, S', n', ag, Nat.zero_le _, rfl, rfl, hn', by simpa using HG, HM, HT, HX1, HB⟩
                case round =>
                  clear HG HM HT HX1 HB hn'
                  obtain ⟨m, S', n', ag, hm, rfl, rfl, hn', HG, HM, HT, HX1, HB⟩ := hrel
                  by_cases hlt2 : m < ls.length
                  · obtain ⟨ad', y, e, HY, h0, h1⟩ := rdTm (Kd.R_reads' HT.out).2.2 (Below.refl _ _) hlt2
                    cases e
                    have hyS := Aside0.mk (HIN.out y (List.mem_of_getElem? HY.out))
                    have hc2 := cntT_le S'
                    go_upto_region 20 with fail
                    refine name_world fun W2 hW => ?_
                    have BY : W2.heap[wr.heap.size]? = some (.cells #[.int .i64 y.f0, .int .i64 y.f1] 49 (0, 0)) := by rw [hW]; exact blk_new wr _
                    have hb1 : Below wr.heap.size wr W2 := by rw [hW]; repeat (first | exact Below.refl _ _ | apply below_alloc | refine below_set ?_ (by simp))
                    clear hW
                    generalize hY : wr.heap.size = Y at BY ⊢
                    replace HM := Aside0.mk (HM.out.below hb1 HM.out.lt)
                    replace HT := Aside0.mk (Kd.R_below HT.out hb1)
                    replace HB := Aside0.mk (bthen HB.out hb1)
                    replace HX1 := Aside0.mk (blk_below HX1.out hb1)
                    have k0 := blk_cell HX1.out 0
                    have k1 := blk_cell HX1.out 1
                    have k2 := blk_cell BY 0
                    have k3 := blk_cell BY 1
                    clear hY hb1 h0 h1 BY
                    obtain ⟨z, hz⟩ : ∃ z, z = tJoin x y := ⟨_, rfl⟩
                    have TJ : ∀ W, Calls Tryz.prog 94 #[.agg #[.int .i64 x.f0, .int .i64 x.f1], .agg #[.int .i64 y.f0, .int .i64 y.f1]] W (RetV W (.agg #[.int .i64 z.f0, .int .i64 z.f1])) := fun W => by rw [hz]; exact impl_TimeJoin x.f0 x.f1 y.f0 y.f1 W
                    have HZ := Aside0.mk hz
                    have hwz : wfT z := by rw [hz]; exact wfT_ok ((Clo.join (HG.out.clo x (HG.out.sub x hxS.out)) (HG.out.clo y (HG.out.sub y hyS.out))).ok HOK.out)
                    clear hz
                    go_upto_region 21 with (go_at_call 94; ((with_reducible refine (TJ _).mono ?_); rintro e w3 ⟨rfl, hb⟩; replace HM := Aside0.mk (HM.out.below hb HM.out.lt); replace HT := Aside0.mk (Kd.R_below HT.out hb); replace HX1 := Aside0.mk (blk_below HX1.out hb); replace HB := Aside0.mk (bthen HB.out hb); clear hb k0 k1 k2 k3))
                    refine name_world fun W4 hW => ?_
                    have BZ : W4.heap[w3.heap.size]? = some (.cells #[.int .i64 z.f0, .int .i64 z.f1] 49 (0, 0)) := by rw [hW]; exact blk_new w3 _
                    have hb1 : Below w3.heap.size w3 W4 := by rw [hW]; repeat (first | exact Below.refl _ _ | apply below_alloc | refine below_set ?_ (by simp))
                    clear hW
                    generalize hZ : w3.heap.size = Z at BZ ⊢
                    replace HM := Aside0.mk (HM.out.below hb1 HM.out.lt)
                    replace HT := Aside0.mk (Kd.R_below HT.out hb1)
                    replace HB := Aside0.mk (bthen HB.out hb1)
                    replace HX1 := Aside0.mk (blk_below HX1.out hb1)
                    have k2 := blk_cell BZ 0
                    have k3 := blk_cell BZ 1
                    clear hZ hb1 BZ TJ
                    obtain ⟨D, hown, hMT⟩ := HM.out
                    have HOW := Aside0.mk hown
                    have HMT := Aside0.mk hMT
                    clear hown hMT HM
                    cases hSz : S' z
                    · have HSZ := Aside0.mk hSz
                      have hput := HG.out.put HOK.out hxS.out hyS.out (by rw [← HZ.out]; exact hSz) (pairsT (ls.take j) ls ++ (ls.take (m + 1)).map fun t => (x, t))
                      rw [← HZ.out] at hput
                      obtain ⟨hp1, hp2⟩ := hput
                      have HG2 := Aside0.mk hp1
                      clear hSz hp1
                      go_wp2_with (first
                        | (at_lookup; refine wpList_lookup_own_bool _ rfl _ _ 108 rfl 49 4 (Keyed.of_law lawTm) Tryz.underlying108 Tryz.underlying4 (zeroB _) wm.heap.size n' D rfl HOW.out _ _ rfl (keyTm hwz.1 hwz.2) ?_; intro c hat; obtain rfl : c = false := HMT.out.look hwz hat HSZ.out; clear hat)
                        | (at_mapUpdate; refine wpList_mapUpdate_own _ rfl _ _ _ 108 rfl 49 4 (Keyed.of_law lawTm) Tryz.underlying108 (plainElem (H := Unit) Tryz.prog 4) wm.heap.size n' _ rfl HOW.out (by unfold maxLen; omega) _ _ _ rfl rfl (keyTm hwz.1 hwz.2) _ [] (plainElem_bool Tryz.underlying4 true) ?_; intro w1 hown1 hgrow1; have HM2 : Aside0 (OwnT w1 wm.heap.size (n' + 1) (addT S' z)) := ⟨⟨_, hown1, HMT.out.put hwz (fun t => rfl)⟩⟩; have HB2 := Aside0.mk (HB.out.grown hgrow1 HB.out.size (fun j hj => by cases hj; exact hws)); have HT2 := Aside0.mk (R_pick HT.out hgrow1 (fun q hq => hq)); have HX2 := Aside0.mk (blk_grown HX1.out hgrow1 (by intro e; have := Option.some.inj e; omega)); clear hown1 hgrow1))
                      go_roundw
                      case rel => exact ⟨m + 1, addT S' z, n' + 1, true, by omega, by go_num, rfl, by omega, HG2, HM2, HT2, HX2, HB2⟩
                      case measure => simp [intOf]; omega
                    · have HSZ := Aside0.mk hSz
                      have HG2 := Aside0.mk (HG.out.had (s := x) (t := y) (by rw [← HZ.out]; exact hSz))
                      clear hSz
                      go_wp2_with (at_lookup; refine wpList_lookup_own_bool _ rfl _ _ 108 rfl 49 4 (Keyed.of_law lawTm) Tryz.underlying108 Tryz.underlying4 (zeroB _) wm.heap.size n' D rfl HOW.out _ _ rfl (keyTm hwz.1 hwz.2) ?_; intro c hat; obtain rfl : c = true := HMT.out.look hwz hat HSZ.out; clear hat)
                      go_roundw
                      case rel => exact ⟨m + 1, S', n', ag, by omega, by go_num, rfl, hn', ⟨by rw [mapT_snoc HY.out, ← List.append_assoc]; exact HG2.out⟩, ⟨⟨D, HOW.out, HMT.out⟩⟩, HT, HX1, HB⟩
                      case measure => simp [intOf]; omega
                  · obtain rfl : m = ls.length := by omega
                    rw [List.take_length] at HG
                    go_wp2
                    go_roundw
                    case rel => exact ⟨j + 1, S', n', ag, by omega, by go_num, rfl, hn', ⟨by rw [pairsT_snoc HX.out]; exact HG.out⟩, HM, HT, HB⟩
                    case measure => simp [intOf]; omega
              · obtain rfl : j = ls.length := by omega
                rw [List.take_length] at HG
                have HI2 := Aside0.mk (HDN.out S' ag HG.out)
                have hmo := HG.out.more
                go_wp2
                go_roundg (if ag = true then 65 - cntT S' else 0)
                case measure => cases ag <;> simp <;> (try have := hmo rfl) <;> omega
                case rel => exact ⟨S', n', ag, rfl, hn', fun e => by rw [if_pos e]; omega, HI2, HM, HB⟩
end Go.Proofs.YthljcnlmeefcjaaGreat.X

namespace Go.Proofs.YthljcnlmeefcjaaGreat.X
open Go.RowKit Go.Proofs.YthljcnlmeefcjaaGreatW.PrintWords
set_option linter.unusedVariables false
set_option linter.unusedSimpArgs false

theorem tJoin_comm (s t : Tm) : tJoin s t = tJoin t s := by
  unfold tJoin
  cases hs : tOk s <;> cases ht : tOk t <;> simp
  unfold tmax
  constructor <;> (split <;> split <;> omega)
theorem tJoin_self {t : Tm} (h : tOk t = true) : tJoin t t = t := by
  unfold tJoin; rw [h]
  simp only [Bool.and_self, if_true, tmax]
  exact Tm.ext' (by simp) (by simp)
theorem nodup_snoc {sm : List Tm} {z : Tm} (h : sm.Nodup) (hz : z ∉ sm) : (sm ++ [z]).Nodup :=
  List.nodup_append.2 ⟨h, by simp, fun a ha b hb e => hz (by rw [List.mem_singleton.1 hb] at e; rw [← e]; exact ha)⟩
/-- a growing list: what is in, which pairs were seen -/
structure SpF (B : Tm → Prop) (sm : List Tm) (i k : Nat) : Prop where
  nodup : sm.Nodup
  clo : ∀ t ∈ sm, Clo B t
  base : ∀ t, B t → t ∈ sm
  seen : ∀ a b x y, sm[a]? = some x → sm[b]? = some y → (a < i ∨ (a = i ∧ b < k)) → b < a → tJoin x y ∈ sm
theorem SpF.app {B : Tm → Prop} {sm : List Tm} {i k : Nat} (h : SpF B sm i k) (hi : i < sm.length) {z : Tm} (hz : z ∉ sm) (hc : Clo B z) : SpF B (sm ++ [z]) i k := by
  refine ⟨?_, fun t ht => ?_, fun t ht => List.mem_append.2 (.inl (h.base t ht)), fun a b x y ha hb hab hba => ?_⟩
  · exact nodup_snoc h.nodup hz
  · rcases List.mem_append.1 ht with ht | ht
    · exact h.clo t ht
    · rw [List.mem_singleton.1 ht]; exact hc
  · rw [List.getElem?_append_left (by omega)] at ha hb
    exact List.mem_append.2 (.inl (h.seen a b x y ha hb hab hba))
theorem SpF.next {B : Tm → Prop} {sm : List Tm} {i k : Nat} (h : SpF B sm i k) {x y : Tm} (hx : sm[i]? = some x) (hy : sm[k]? = some y) (hz : tJoin x y ∈ sm) : SpF B sm i (k + 1) := by
  refine ⟨h.nodup, h.clo, h.base, fun a b x' y' ha hb hab hba => ?_⟩
  by_cases hk : a = i ∧ b = k
  · obtain ⟨rfl, rfl⟩ := hk
    rw [hx] at ha; rw [hy] at hb
    rw [← Option.some.inj ha, ← Option.some.inj hb]; exact hz
  · exact h.seen a b x' y' ha hb (by omega) hba
theorem SpF.row {B : Tm → Prop} {sm : List Tm} {i : Nat} (h : SpF B sm i i) : SpF B sm (i + 1) 0 :=
  ⟨h.nodup, h.clo, h.base, fun a b x y ha hb hab hba => h.seen a b x y ha hb (by omega) hba⟩
theorem SpF.shut {B : Tm → Prop} (hB : ∀ t, B t → tOk t = true) {sm : List Tm} {i : Nat} (h : SpF B sm i 0) (hi : sm.length ≤ i) : ∀ x y, x ∈ sm → y ∈ sm → tJoin x y ∈ sm := fun x y hx hy => by
  obtain ⟨a, ha⟩ := List.mem_iff_getElem?.1 hx
  obtain ⟨b, hb⟩ := List.mem_iff_getElem?.1 hy
  have la := (List.getElem?_eq_some_iff.1 ha).1
  have lb := (List.getElem?_eq_some_iff.1 hb).1
  rcases Nat.lt_trichotomy a b with hab | rfl | hab
  · rw [tJoin_comm]; exact h.seen b a y x hb ha (.inl (by omega)) hab
  · rw [ha] at hb
    rw [← Option.some.inj hb, tJoin_self ((h.clo x hx).ok hB)]; exact hx
  · exact h.seen a b x y ha hb (.inl (by omega)) hab
theorem nodup_len {sm : List Tm} (h : sm.Nodup) (hk : ∀ t ∈ sm, tOk t = true) : sm.length ≤ 64 := by
  have : ∀ (l m : List Tm), l.Nodup → (∀ t ∈ l, t ∈ m) → l.length ≤ m.length := fun l => by
    induction l with
    | nil => intro m _ _; exact Nat.zero_le _
    | cons x l ih =>
      intro m hn hm
      obtain ⟨h1, h2⟩ := List.nodup_cons.1 hn
      have hx := hm x List.mem_cons_self
      have := ih (m.erase x) h2 (fun t ht => (List.mem_erase_of_ne (fun e => h1 (by rw [← e]; exact ht))).2 (hm t (List.mem_cons_of_mem _ ht)))
      rw [List.length_erase_of_mem hx] at this
      have := List.length_pos_of_mem hx
      rw [List.length_cons]; omega
  have := this sm allTm h (fun t ht => mem_allTm (hk t ht))
  rw [allTm_len] at this; exact this
def keyB (l : List Rw) (key : Int) (t : Tm) : Prop := rowsOk l = true ∧ keyT l key t
theorem keyB_ok {l : List Rw} {key : Int} : ∀ t, keyB l key t → tOk t = true := fun t h => keyT_ok (rowsOk_all h.1).2 t h.2
theorem flowTimes_sm {l : List Rw} {key : Int} {sm : List Tm} (h : SpF (keyB l key) sm sm.length 0) : timesL (fun t => decide (t ∈ sm)) = flowTimes l key := by
  have hs := h.shut keyB_ok (Nat.le_refl _)
  cases hr : rowsOk l
  · have : ∀ t, ¬ Clo (keyB l key) t := fun t hc => by
      induction hc with
      | base hb => have := hb.1; rw [hr] at this; cases this
      | join _ _ h _ => exact h
    unfold flowTimes
    rw [hr]
    simp only [Bool.false_eq_true, if_false]
    unfold timesL
    rw [List.filter_eq_nil_iff]
    intro t _ ht
    exact this t (h.clo t (of_decide_eq_true ht))
  · refine flowTimes_of hr (fun t ht => decide_eq_true (h.base t ⟨hr, ht⟩)) (fun t ht => ?_) (fun s t hs' ht' => decide_eq_true (hs s t (of_decide_eq_true hs') (of_decide_eq_true ht')))
    have := h.clo t (of_decide_eq_true ht)
    clear ht
    induction this with
    | base hb => exact .base hb.2
    | join _ _ i1 i2 => exact .join i1 i2
/-- the rows so far: their times, each once -/
structure SpA (P : Tm → Prop) (sm : List Tm) : Prop where
  nodup : sm.Nodup
  iff : ∀ t, t ∈ sm ↔ P t
theorem SpA.had {P P' : Tm → Prop} {sm : List Tm} (h : SpA P sm) (hP : ∀ t, P' t ↔ P t) : SpA P' sm := ⟨h.nodup, fun t => (h.iff t).trans (hP t).symm⟩
theorem SpA.app {P P' : Tm → Prop} {sm : List Tm} (h : SpA P sm) {z : Tm} (hz : z ∉ sm) (hP : ∀ t, P' t ↔ (P t ∨ t = z)) : SpA P' (sm ++ [z]) := by
  refine ⟨?_, fun t => ?_⟩
  · exact nodup_snoc h.nodup hz
  · rw [hP, ← h.iff, List.mem_append, List.mem_singleton]
theorem keyT_snoc {l : List Rw} {k : Nat} {x : Rw} (hx : l[k]? = some x) (key : Int) (t : Tm) : keyT (l.take (k + 1)) key t ↔ (keyT (l.take k) key t ∨ (x.f0 = key ∧ t = x.f2)) := by
  unfold keyT
  rw [take_snoc hx]
  constructor
  · rintro ⟨r, hr, h1, h2⟩
    rcases List.mem_append.1 hr with hr | hr
    · exact .inl ⟨r, hr, h1, h2⟩
    · rw [List.mem_singleton.1 hr] at h1 h2; exact .inr ⟨h1, h2.symm⟩
  · rintro (⟨r, hr, h1, h2⟩ | ⟨h1, h2⟩)
    · exact ⟨r, List.mem_append.2 (.inl hr), h1, h2⟩
    · exact ⟨x, List.mem_append.2 (.inr (List.mem_singleton.2 rfl)), h1, h2.symm⟩
def keyP (l : List Rw) (key : Int) (k : Nat) (t : Tm) : Prop := rowsOk l = true ∧ keyT (l.take k) key t
theorem keyP_zero {l : List Rw} {key : Int} : SpA (keyP l key 0) [] := ⟨List.Pairwise.nil, fun t => ⟨fun h => (by cases h), fun ⟨_, r, hr, _⟩ => (by cases hr)⟩⟩
theorem keyP_bad {l : List Rw} {key : Int} {k : Nat} (hs : rowsOk l = false) (t : Tm) : keyB l key t ↔ keyP l key k t := by
  unfold keyB keyP
  rw [hs]
  exact ⟨fun h => (by cases h.1), fun h => (by cases h.1)⟩
theorem keyP_same {l : List Rw} {key : Int} {k : Nat} {x : Rw} (hx : l[k]? = some x) (hk : ¬ x.f0 = key) (t : Tm) : keyP l key (k + 1) t ↔ keyP l key k t := by
  unfold keyP
  rw [keyT_snoc hx]
  exact ⟨fun ⟨a, b⟩ => ⟨a, b.elim id (fun c => absurd c.1 hk)⟩, fun ⟨a, b⟩ => ⟨a, .inl b⟩⟩
theorem keyP_had {l : List Rw} {key : Int} {k : Nat} {x : Rw} (hx : l[k]? = some x) (hm : keyP l key k x.f2) (t : Tm) : keyP l key (k + 1) t ↔ keyP l key k t := by
  unfold keyP at hm ⊢
  rw [keyT_snoc hx]
  exact ⟨fun ⟨a, b⟩ => b.elim (fun c => ⟨a, c⟩) (fun c => by rw [c.2]; exact hm), fun ⟨a, b⟩ => ⟨a, .inl b⟩⟩
theorem keyP_add {l : List Rw} {key : Int} {k : Nat} {x : Rw} (hx : l[k]? = some x) (hs : rowsOk l = true) (hk : x.f0 = key) (t : Tm) : keyP l key (k + 1) t ↔ (keyP l key k t ∨ t = x.f2) := by
  unfold keyP
  rw [keyT_snoc hx]
  exact ⟨fun ⟨a, b⟩ => b.elim (fun c => .inl ⟨a, c⟩) (fun c => .inr c.2), fun h => h.elim (fun c => ⟨c.1, .inl c.2⟩) (fun c => ⟨hs, .inr ⟨hk, c⟩⟩)⟩
theorem keyP_end {l : List Rw} {key : Int} (t : Tm) : keyB l key t ↔ keyP l key l.length t := by unfold keyP keyB; rw [List.take_length]
set_option maxRecDepth 100000 in
set_option maxHeartbeats 8000000 in
theorem spec_FlowTimes (v : Value) (l : List Rw) (key : Int) (w : World) (h : Sl kRw w v l) : Calls Tryz.prog 98 #[v, .int .i64 key] w (RetR kTm 49 w (flowTimes l key)) := by
  have HS := Aside0.mk h
  obtain ⟨A, c_, rfl, HC, hr⟩ := h
  have hm := Kd.C_max hr
  have HR := Aside0.mk hr
  clear hr
  have HN := Aside0.mk (R_none (d := kTm) (e := 49) (base := w.heap.size) (ok := okT) (blk_new w (.cells #[] 49)) (Nat.le_refl _) trivial)
  have HB := Aside0.mk (Below.refl w.heap.size w)
  go_enter Tryz.func98, Tryz.ntmps98
  replace HB := Aside0.mk (below_alloc HB.out (.cells #[] 49))
  go_upto_block 0 with fail
  go_cut [5] (fun o wc => ∃ sm, Aside0 (SpA (keyB l key) sm) ∧ Aside0 (kTm.R 49 wc w.heap.size okT o sm) ∧ Aside0 (Below w.heap.size w wc))
  case first =>
    go_wp2
    go_loopw [5, 6] (fun o i wr => ∃ (k : Nat) (sm : List Tm), k ≤ l.length ∧ i = .int .i64 k ∧ sm.length ≤ k ∧ Aside0 (SpA (keyP l key k) sm) ∧ Aside0 (kTm.R 49 wr w.heap.size okT o sm) ∧ Aside0 (Below w.heap.size w wr)) (fun _ i _ => l.length - (intOf i).toNat)
    case atStart => exact ⟨0, [], Nat.zero_le _, rfl, Nat.le_refl _, ⟨keyP_zero⟩, HN, HB⟩
    case round =>
      clear HN HB
      obtain ⟨k, sm, hk, rfl, hsl, HA, HO, HB⟩ := hrel
      by_cases hlt : k < l.length
      · cases hs : rowsOk l
        · have HSF := Aside0.mk hs
          go_wp2_with (go_at_call 12; ((with_reducible refine (spec_RowsOk _ l _ (HS.out.below HB.out)).mono ?_); rintro e w' ⟨rfl, hb⟩; replace HB := Aside0.mk (bthen HB.out hb); replace HO := Aside0.mk (Kd.R_below HO.out hb); clear hb))
          go_meet
          case rel => exact ⟨sm, ⟨HA.out.had (keyP_bad HSF.out)⟩, HO, HB⟩
        · have HSF := Aside0.mk hs
          have hl4 := (rowsOk_all hs).1
          obtain ⟨ad, x, e, HX, h0, h1, h2, h3, h4⟩ := rdRw HR.out HB.out hlt
          cases e
          cases hk0 : (x.f0 == key)
          · have HK := Aside0.mk hk0
            have hkn : ¬ x.f0 = key := by simpa using hk0
            have HKN := Aside0.mk hkn
            clear hkn
            go_wp2_with (go_at_call 12; ((with_reducible refine (spec_RowsOk _ l _ (HS.out.below HB.out)).mono ?_); rintro e w' ⟨rfl, hb⟩; replace HB := Aside0.mk (bthen HB.out hb); replace HO := Aside0.mk (Kd.R_below HO.out hb); replace h0 := pw_cell_below hb h0; replace h2 := pw_cell_below hb h2; replace h3 := pw_cell_below hb h3; clear hb))
            go_roundw
            case rel => exact ⟨k + 1, sm, by omega, by go_num, by omega, ⟨HA.out.had (keyP_same HX.out HKN.out)⟩, HO, HB⟩
            case measure => simp [intOf]; omega
          · have HKE := Aside0.mk (show x.f0 = key by simpa using hk0)
            cases hd : decide (x.f2 ∈ sm)
            · have HD := Aside0.mk (of_decide_eq_false hd)
              go_wp2_with (first
                | (go_at_call 12; ((with_reducible refine (spec_RowsOk _ l _ (HS.out.below HB.out)).mono ?_); rintro e w' ⟨rfl, hb⟩; replace HB := Aside0.mk (bthen HB.out hb); replace HO := Aside0.mk (Kd.R_below HO.out hb); replace h0 := pw_cell_below hb h0; replace h2 := pw_cell_below hb h2; replace h3 := pw_cell_below hb h3; clear hb))
                | (go_at_call 110; ((with_reducible refine (spec_l11Has _ sm x.f2 _ (Sl.of_R HO.out)).mono ?_); rintro e w' ⟨rfl, hb⟩; replace HB := Aside0.mk (bthen HB.out hb); replace HO := Aside0.mk (Kd.R_below HO.out hb); replace h2 := pw_cell_below hb h2; replace h3 := pw_cell_below hb h3; clear hb))
                | (at_builtin; refine appTm (w0 := w) (base := w.heap.size) (xs := sm) (ok := okT) rfl rfl rfl HO.out (fun _ _ => trivial) HB.out (by have := HB.out.size; omega) (by omega) ?_; intro v1 w1 hr1 hb1 hg1 ha1; have HO2 := Aside0.mk hr1; have HG_ := Aside0.mk hg1; replace HB := Aside0.mk hb1; clear hr1 hb1 hg1 ha1))
              go_roundw
              case rel => exact ⟨k + 1, sm ++ [x.f2], by omega, by go_num, by rw [List.length_append, List.length_singleton]; omega, ⟨HA.out.app HD.out (keyP_add HX.out HSF.out HKE.out)⟩, HO2, HB⟩
              case measure => simp [intOf]; omega
            · have HD := Aside0.mk (of_decide_eq_true hd)
              go_wp2_with (first
                | (go_at_call 12; ((with_reducible refine (spec_RowsOk _ l _ (HS.out.below HB.out)).mono ?_); rintro e w' ⟨rfl, hb⟩; replace HB := Aside0.mk (bthen HB.out hb); replace HO := Aside0.mk (Kd.R_below HO.out hb); replace h0 := pw_cell_below hb h0; replace h2 := pw_cell_below hb h2; replace h3 := pw_cell_below hb h3; clear hb))
                | (go_at_call 110; ((with_reducible refine (spec_l11Has _ sm x.f2 _ (Sl.of_R HO.out)).mono ?_); rintro e w' ⟨rfl, hb⟩; replace HB := Aside0.mk (bthen HB.out hb); replace HO := Aside0.mk (Kd.R_below HO.out hb); clear hb)))
              go_roundw
              case rel => exact ⟨k + 1, sm, by omega, by go_num, by omega, ⟨HA.out.had (keyP_had HX.out ((HA.out.iff _).1 HD.out))⟩, HO, HB⟩
              case measure => simp [intOf]; omega
      · obtain rfl : k = l.length := by omega
        go_wp2
        go_meet
        case rel => exact ⟨sm, ⟨HA.out.had keyP_end⟩, HO, HB⟩
  case rest =>
    clear HN HB
    obtain ⟨sm, HA, HO, HB⟩ := hcut
    have HF0 : Aside0 (SpF (keyB l key) sm 0 0) := ⟨⟨HA.out.nodup, fun t ht => .base ((HA.out.iff t).1 ht), fun t ht => (HA.out.iff t).2 ht, fun a b x y _ _ h1 h2 => by omega⟩⟩
    clear HA
    go_at_K
    go_wp2
    go_loopw [5, 7] (fun o i wr => ∃ (k : Nat) (sm : List Tm), k ≤ sm.length ∧ i = .int .i64 k ∧ Aside0 (SpF (keyB l key) sm k 0) ∧ Aside0 (kTm.R 49 wr w.heap.size okT o sm) ∧ Aside0 (Below w.heap.size w wr)) (fun _ i _ => 64 - (intOf i).toNat)
    case atStart => exact ⟨0, sm, Nat.zero_le _, rfl, HF0, HO, HB⟩
    case round =>
      clear HF0 HO HB
      obtain ⟨k, sm, hk, rfl, HF, HO, HB⟩ := hrel
      have hl64 := nodup_len HF.out.nodup (fun t ht => (HF.out.clo t ht).ok keyB_ok)
      obtain ⟨A3, c3, rfl, hc3, hC3⟩ := Sl.of_R HO.out
      clear hC3
      by_cases hlt : k < sm.length
      · go_wp2
        go_loopw [5, 8] (fun o i wr => ∃ (m : Nat) (sm : List Tm), m ≤ k ∧ i = .int .i64 m ∧ k < sm.length ∧ Aside0 (SpF (keyB l key) sm k m) ∧ Aside0 (kTm.R 49 wr w.heap.size okT o sm) ∧ Aside0 (Below w.heap.size w wr)) (fun _ i _ => k - (intOf i).toNat)
        case atStart => exact ⟨0, sm, Nat.zero_le _, rfl, hlt, HF, HO, HB⟩
        case round =>
          clear HF HO HB
          obtain ⟨m, sm, hm, rfl, hks, HF, HO, HB⟩ := hrel
          have hl64 := nodup_len HF.out.nodup (fun t ht => (HF.out.clo t ht).ok keyB_ok)
          obtain ⟨A4, c4, rfl, hc4, hC4⟩ := Sl.of_R HO.out
          clear hC4
          by_cases hlt2 : m < k
          · obtain ⟨ad, x, e, HX, h0, h1⟩ := rdTm (Kd.R_reads' HO.out).2.2 (Below.refl _ _) hks
            cases e
            obtain ⟨ad', y, e, HY, i0, i1⟩ := rdTm (Kd.R_reads' HO.out).2.2 (Below.refl _ _) (show m < sm.length by omega)
            cases e
            have hcz := Aside0.mk (Clo.join (HF.out.clo x (List.mem_of_getElem? HX.out)) (HF.out.clo y (List.mem_of_getElem? HY.out)))
            obtain ⟨z, hz⟩ : ∃ z, z = tJoin x y := ⟨_, rfl⟩
            have TJ : ∀ W, Calls Tryz.prog 77 #[.agg #[.int .i64 x.f0, .int .i64 x.f1], .agg #[.int .i64 y.f0, .int .i64 y.f1]] W (RetV W (.agg #[.int .i64 z.f0, .int .i64 z.f1])) := fun W => by rw [hz]; exact spec_TimeJoin x.f0 x.f1 y.f0 y.f1 W
            have HZ := Aside0.mk hz
            clear hz
            have hms : m < sm.length := by omega
            have d0 : wr.drew.cell? (ad.add (k * 2)) = some (.int .i64 x.f0) := h0
            have d1 : wr.drew.cell? ⟨(ad.add (k * 2)).block, (ad.add (k * 2)).off + 1, none⟩ = some (.int .i64 x.f1) := h1
            have e0 : wr.drew.cell? (ad.add (m * 2)) = some (.int .i64 y.f0) := i0
            have e1 : wr.drew.cell? ⟨(ad.add (m * 2)).block, (ad.add (m * 2)).off + 1, none⟩ = some (.int .i64 y.f1) := i1
            go_upto_region 13 with fail
            go_cut [9] from 55 to 76 (fun q wc => ∃ X, q = .pointer (some ⟨X, 0, none⟩) ∧ Aside0 (wc.heap[X]? = some (.cells #[.int .i64 z.f0, .int .i64 z.f1] 49 (0, 0))) ∧ Aside0 (kTm.R 49 wc w.heap.size okT (.slice (some ad) sm.length c4) sm) ∧ Aside0 (Below w.heap.size w wc))
            case first =>
              have hww := HB.out.size
              have HO1 := Aside0.mk (R_new (ok' := fun q => q ≠ wr.heap.size) HO.out (X := wr.heap.size) (Nat.le_refl _) (fun q _ h => by omega))
              have a0 : (wr.alloc (.cells #[.int .i64 0, .int .i64 0] 49)).drew.cell? (ad.add (k * 2)) = some (.int .i64 x.f0) := pw_cell_below (w := wr) (below_alloc (Below.refl _ _) _) h0
              have a1 : (wr.alloc (.cells #[.int .i64 0, .int .i64 0] 49)).drew.cell? ⟨(ad.add (k * 2)).block, (ad.add (k * 2)).off + 1, none⟩ = some (.int .i64 x.f1) := pw_cell_below (w := wr) (below_alloc (Below.refl _ _) _) h1
              have a2 : (wr.alloc (.cells #[.int .i64 0, .int .i64 0] 49)).drew.cell? (ad.add (m * 2)) = some (.int .i64 y.f0) := pw_cell_below (w := wr) (below_alloc (Below.refl _ _) _) i0
              have a3 : (wr.alloc (.cells #[.int .i64 0, .int .i64 0] 49)).drew.cell? ⟨(ad.add (m * 2)).block, (ad.add (m * 2)).off + 1, none⟩ = some (.int .i64 y.f1) := pw_cell_below (w := wr) (below_alloc (Below.refl _ _) _) i1
              go_region_held3 (fun w' => w'.cell? (ad.add (k * 2)) = some (.int .i64 x.f0) ∧ w'.cell? ⟨(ad.add (k * 2)).block, (ad.add (k * 2)).off + 1, none⟩ = some (.int .i64 x.f1) ∧ w'.cell? (ad.add (m * 2)) = some (.int .i64 y.f0) ∧ w'.cell? ⟨(ad.add (m * 2)).block, (ad.add (m * 2)).off + 1, none⟩ = some (.int .i64 y.f1))
                (first | exact ⟨h0, h1, i0, i1⟩ | exact ⟨d0, d1, e0, e1⟩ | exact ⟨a0, a1, a2, a3⟩ | exact ⟨C0, C1, C2, C3⟩ | exact ⟨pw_cell_below (below_alloc (Below.refl _ _) _) C0, pw_cell_below (below_alloc (Below.refl _ _) _) C1, pw_cell_below (below_alloc (Below.refl _ _) _) C2, pw_cell_below (below_alloc (Below.refl _ _) _) C3⟩ | exact ⟨pw_cell_below (below_set (below_set HW5.out (Nat.le_refl _)) (Nat.le_refl _)) h0, pw_cell_below (below_set (below_set HW5.out (Nat.le_refl _)) (Nat.le_refl _)) h1, pw_cell_below (below_set (below_set HW5.out (Nat.le_refl _)) (Nat.le_refl _)) i0, pw_cell_below (below_set (below_set HW5.out (Nat.le_refl _)) (Nat.le_refl _)) i1⟩)
                (first
                  | (go_at_call 77; ((with_reducible refine (TJ wr.drew).mono ?_); rintro e w5 ⟨rfl, hb⟩; have HW5 := Aside0.mk (bthen (below_drew (Below.refl wr.heap.size wr)) hb); have C0 := pw_cell_below hb d0; have C1 := pw_cell_below hb d1; have C2 := pw_cell_below hb e0; have C3 := pw_cell_below hb e1))
                  | (go_at_call 77; ((with_reducible refine (TJ (wr.alloc (.cells #[.int .i64 0, .int .i64 0] 49)).drew).mono ?_); rintro e w5 ⟨rfl, hb⟩; have HW5 := Aside0.mk (bthen (below_drew (below_alloc (Below.refl wr.heap.size wr) (.cells #[.int .i64 0, .int .i64 0] 49))) hb); have C0 := pw_cell_below hb a0; have C1 := pw_cell_below hb a1; have C2 := pw_cell_below hb a2; have C3 := pw_cell_below hb a3; have HBX := Aside0.mk (blk_below (show (wr.alloc (.cells #[.int .i64 0, .int .i64 0] 49)).drew.heap[wr.heap.size]? = _ from blk_new wr _) hb); have b0 := blk_cell HBX.out 0; have b1 := blk_cell HBX.out 1; have f0 := blk_fz HBX.out 0; have f1 := blk_fz HBX.out 1)))
              all_goals
                go_wp2
                go_meet
              all_goals
                first
                  | exact ⟨w5.heap.size, rfl, ⟨blk_new w5 _⟩, ⟨R_alloc (Kd.R_below (R_drew HO.out) hb) _⟩, ⟨below_alloc (bthen (below_drew HB.out) hb) _⟩⟩
                  | exact ⟨wr.heap.size, rfl, ⟨blk2 HBX.out _ _⟩, ⟨Kd.R_mono (Kd.R_far (Kd.R_far (Kd.R_below (R_drew (R_alloc HO1.out _)) hb) (fun q hq => hq) _) (fun q hq => hq) _) (fun _ _ => trivial)⟩, ⟨below_set (below_set (bthen (below_drew (below_alloc HB.out _)) hb) hww) hww⟩⟩
            case rest =>
              clear HO HB h0 h1 i0 i1 d0 d1 e0 e1 TJ
              obtain ⟨X, rfl, HXB, HO, HB⟩ := hcut
              have k0 := blk_cell HXB.out 0
              have k1 := blk_cell HXB.out 1
              clear HXB
              go_at_K
              cases hd : decide (z ∈ sm)
              · have HD := Aside0.mk (of_decide_eq_false hd)
                go_wp2_with (first
                  | (go_at_call 110; ((with_reducible refine (spec_l11Has _ sm z _ (Sl.of_R HO.out)).mono ?_); rintro e w' ⟨rfl, hb⟩; replace HB := Aside0.mk (bthen HB.out hb); replace HO := Aside0.mk (Kd.R_below HO.out hb); replace k0 := pw_cell_below hb k0; replace k1 := pw_cell_below hb k1; clear hb))
                  | (at_builtin; refine appTm (w0 := w) (base := w.heap.size) (xs := sm) (ok := okT) rfl rfl rfl HO.out (fun _ _ => trivial) HB.out (by have := HB.out.size; omega) (by omega) ?_; intro v1 w1 hr1 hb1 hg1 ha1; have HO2 := Aside0.mk hr1; have HG_ := Aside0.mk hg1; replace HB := Aside0.mk hb1; clear hr1 hb1 hg1 ha1))
                go_roundw
                case rel => exact ⟨m + 1, sm ++ [z], by omega, by go_num, by rw [List.length_append, List.length_singleton]; omega, ⟨(HF.out.app hks HD.out (HZ.out ▸ hcz.out)).next (by rw [List.getElem?_append_left hks]; exact HX.out) (by rw [List.getElem?_append_left (by omega)]; exact HY.out) (by rw [← HZ.out]; exact List.mem_append.2 (.inr (List.mem_singleton.2 rfl)))⟩, HO2, HB⟩
                case measure => simp [intOf]; omega
              · have HD := Aside0.mk (of_decide_eq_true hd)
                go_wp2_with (go_at_call 110; ((with_reducible refine (spec_l11Has _ sm z _ (Sl.of_R HO.out)).mono ?_); rintro e w' ⟨rfl, hb⟩; replace HB := Aside0.mk (bthen HB.out hb); replace HO := Aside0.mk (Kd.R_below HO.out hb); clear hb))
                go_roundw
                case rel => exact ⟨m + 1, sm, by omega, by go_num, hks, ⟨HF.out.next HX.out HY.out (by rw [← HZ.out]; exact HD.out)⟩, HO, HB⟩
                case measure => simp [intOf]; omega
          · obtain rfl : m = k := by omega
            go_wp2
            go_roundw
            case rel => exact ⟨m + 1, sm, by omega, by go_num, ⟨HF.out.row⟩, HO, HB⟩
            case measure => simp [intOf]; omega
      · obtain rfl : k = sm.length := by omega
        have HFT := Aside0.mk (flowTimes_sm HF.out)
        have HSM := Aside0.mk (Sl.of_R HO.out)
        clear HF HO
        rename World => Wf
        have HN := Aside0.mk (R_none (d := kTm) (e := 49) (base := Wf.heap.size) (ok := okT) (blk_new Wf (.cells #[] 49)) (Nat.le_refl _) trivial)
        have hwf := HB.out.size
        have HBF := HB
        replace HB := Aside0.mk (below_alloc (Below.refl Wf.heap.size Wf) (.cells #[] 49))
        go_wp2
        go_loopw [10, 11] (fun o i wr => ∃ (k : Nat), k ≤ 8 ∧ i = .int .i64 k ∧ Aside0 (kTm.R 49 wr Wf.heap.size okT o ((allTm.take (8 * k)).filter (fun t => decide (t ∈ sm)))) ∧ Aside0 (Below Wf.heap.size Wf wr)) (fun _ i _ => 8 - (intOf i).toNat)
        case atStart => exact ⟨0, Nat.zero_le _, rfl, HN, HB⟩
        case round =>
          clear HB HN
          obtain ⟨k, hk, rfl, HO, HB⟩ := hrel
          by_cases hlt : k < 8
          · have hlt' : (k : Int) ≤ 7 := by omega
            go_wp2
            go_loopw [10, 12] (fun o i wr => ∃ (j : Nat), j ≤ 8 ∧ i = .int .i64 j ∧ Aside0 (kTm.R 49 wr Wf.heap.size okT o ((allTm.take (8 * k + j)).filter (fun t => decide (t ∈ sm)))) ∧ Aside0 (Below Wf.heap.size Wf wr)) (fun _ i _ => 8 - (intOf i).toNat)
            case atStart => exact ⟨0, Nat.zero_le _, rfl, HO, HB⟩
            case round =>
              clear HO HB
              obtain ⟨j, hj, rfl, HO, HB⟩ := hrel
              have hpl := timesL_len (fun t => decide (t ∈ sm)) (8 * k + j)
              by_cases hlt2 : j < 8
              · have hlt3 : (j : Int) ≤ 7 := by omega
                have hsn := Aside0.mk (timesL_snoc (fun t => decide (t ∈ sm)) hlt hlt2)
                cases hS : decide ((⟨(k : Int), (j : Int)⟩ : Tm) ∈ sm)
                · have HS2 := Aside0.mk hS
                  go_wp2_with (go_at_call 110; ((with_reducible refine (spec_l11Has (.slice A3 sm.length c3) sm ⟨(k : Int), (j : Int)⟩ _ (HSM.out.below HB.out)).mono ?_); rintro e w' ⟨rfl, hb⟩; replace HB := Aside0.mk (bthen HB.out hb); replace HO := Aside0.mk (Kd.R_below HO.out hb); clear hb))
                  go_roundw
                  case rel => exact ⟨j + 1, by omega, by go_num, ⟨by rw [← Nat.add_assoc, hsn.out, HS2.out]; simpa using HO.out⟩, HB⟩
                  case measure => simp [intOf]; omega
                · have HS2 := Aside0.mk hS
                  go_wp2_with (first
                    | (go_at_call 110; ((with_reducible refine (spec_l11Has (.slice A3 sm.length c3) sm ⟨(k : Int), (j : Int)⟩ _ (HSM.out.below HB.out)).mono ?_); rintro e w' ⟨rfl, hb⟩; replace HB := Aside0.mk (bthen HB.out hb); replace HO := Aside0.mk (Kd.R_below HO.out hb); clear hb))
                    | (at_builtin; refine appTm (w0 := Wf) (base := Wf.heap.size) (xs := (allTm.take (8 * k + j)).filter (fun t => decide (t ∈ sm))) (ok := okT) rfl rfl rfl HO.out (fun _ _ => trivial) HB.out (by have := HB.out.size; omega) (by omega) ?_; intro v1 w1 hr1 hb1 hg1 ha1; have HO2 := Aside0.mk hr1; replace HB := Aside0.mk hb1; clear hr1 hb1 hg1 ha1))
                  go_roundw
                  case rel => exact ⟨j + 1, by omega, by go_num, ⟨by rw [← Nat.add_assoc, hsn.out, HS2.out]; exact HO2.out⟩, HB⟩
                  case measure => simp [intOf]; omega
              · obtain rfl : j = 8 := by omega
                go_wp2
                go_roundw
                case rel => exact ⟨k + 1, by omega, by go_num, ⟨by rw [Nat.mul_add]; exact HO.out⟩, HB⟩
                case measure => simp [intOf]; omega
          · obtain rfl : k = 8 := by omega
            rw [List.take_of_length_le (by rw [allTm_len]; omega)] at HO
            go_wp2
            go_ret
            exact RetR.mk (by rw [← HFT.out]; exact Kd.R_lower HO.out hwf) (bthen HBF.out HB.out)
end Go.Proofs.YthljcnlmeefcjaaGreat.X

