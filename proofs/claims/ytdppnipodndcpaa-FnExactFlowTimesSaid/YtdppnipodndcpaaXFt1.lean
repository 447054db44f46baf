/- The times at which something may change: impl.FlowTimes. Conditions: none. -/
import Derived.Test.YtdppnipodndcpaaXTmSet
namespace Go.Proofs.Ytdppnipodndcpaa.X
open Go.RowKit Go.WideElems Go.MapKept Go.ChangeMaps Go.ChangeShapes Go.WideShapes Go.Proofs.YtdppnipodndcpaaW.PrintWords
open Go.WideMaps (KeyLaw)
open Go.Maps (Keyed)
set_option linter.unusedVariables false
set_option linter.unusedSimpArgs false

/-- the least set with such times that is closed under joins -/
inductive Clo (B : Tm → Prop) : Tm → Prop
  | base {t : Tm} : B t → Clo B t
  | join {s t : Tm} : Clo B s → Clo B t → Clo B (tJoin s t)
theorem tJoin_okk {s t : Tm} (hs : tOk s = true) (ht : tOk t = true) : tOk (tJoin s t) = true := by
  unfold tJoin; rw [hs, ht]
  simp only [tOk, Bool.and_eq_true, decide_eq_true_eq] at hs ht
  simp only [Bool.and_self, if_true, tOk, tmax, Bool.and_eq_true, decide_eq_true_eq]
  split <;> split <;> omega
theorem Clo.ok {B : Tm → Prop} (hB : ∀ t, B t → tOk t = true) {t : Tm} (h : Clo B t) : tOk t = true := by
  induction h with
  | base h => exact hB _ h
  | join _ _ h1 h2 => exact tJoin_okk h1 h2
def keyT (l : List Rw) (key : Int) (t : Tm) : Prop := ∃ r ∈ l, r.f0 = key ∧ r.f2 = t
theorem keyT_ok {l : List Rw} {key : Int} (h : ∀ r ∈ l, rowOk r = true) : ∀ t, keyT l key t → tOk t = true := fun t ⟨r, hr, _, e⟩ => by
  have := h r hr
  simp only [rowOk, Bool.and_eq_true] at this
  rw [← e]; exact this.1.1.2
noncomputable def cloB (B : Tm → Prop) : Tm → Bool := fun t => @decide (Clo B t) (Classical.propDecidable _)
theorem cloB_iff {B : Tm → Prop} {t : Tm} : cloB B t = true ↔ Clo B t := by unfold cloB; exact @decide_eq_true_iff _ (Classical.propDecidable _)
/-- the times of the rows of a key, and all their joins -/
noncomputable def flowTimes (l : List Rw) (key : Int) : List Tm := if rowsOk l then timesL (cloB (keyT l key)) else []
theorem timesL_congr {S S' : Tm → Bool} (h : ∀ t, tOk t = true → S t = S' t) : timesL S = timesL S' := by
  unfold timesL
  have go : ∀ l : List Tm, (∀ t ∈ l, tOk t = true) → l.filter S = l.filter S' := fun l => by
    induction l with
    | nil => intro _; rfl
    | cons x l ih => intro hl; rw [List.filter_cons, List.filter_cons, h x (hl x List.mem_cons_self), ih (fun y hy => hl y (List.mem_cons_of_mem _ hy))]
  exact go allTm allTm_ok
theorem flowTimes_of {l : List Rw} {key : Int} (hl : rowsOk l = true) {S : Tm → Bool} (h1 : ∀ t, keyT l key t → S t = true) (h2 : ∀ t, S t = true → Clo (keyT l key) t) (h3 : ∀ s t, S s = true → S t = true → S (tJoin s t) = true) : timesL S = flowTimes l key := by
  unfold flowTimes
  rw [if_pos hl]
  refine timesL_congr fun t ht => ?_
  clear ht
  rw [Bool.eq_iff_iff, cloB_iff]
  refine ⟨h2 t, fun h => ?_⟩
  induction h with
  | base h => exact h1 _ h
  | join _ _ i1 i2 => exact h3 _ _ i1 i2
def cntT (S : Tm → Bool) : Nat := (timesL S).length
theorem cntT_le (S : Tm → Bool) : cntT S ≤ 64 := by
  have := List.length_filter_le S allTm
  rw [allTm_len] at this
  exact this
theorem filter_le {S S' : Tm → Bool} (h : ∀ t, S t = true → S' t = true) : ∀ l : List Tm, (l.filter S).length ≤ (l.filter S').length
  | [] => Nat.le_refl _
  | x :: l => by
    have ih := filter_le h l
    by_cases h1 : S x = true
    · rw [List.filter_cons_of_pos h1, List.filter_cons_of_pos (h x h1), List.length_cons, List.length_cons]; omega
    · rw [List.filter_cons_of_neg h1]
      by_cases h2 : S' x = true
      · rw [List.filter_cons_of_pos h2, List.length_cons]; omega
      · rw [List.filter_cons_of_neg h2]; exact ih
theorem filter_lt {S S' : Tm → Bool} (h : ∀ t, S t = true → S' t = true) {x : Tm} (h1 : S x = false) (h2 : S' x = true) : ∀ l : List Tm, x ∈ l → (l.filter S).length < (l.filter S').length
  | y :: l, hx => by
    have ih := filter_le h l
    rcases List.mem_cons.1 hx with rfl | hx
    · rw [List.filter_cons_of_neg (by rw [h1]; simp), List.filter_cons_of_pos h2, List.length_cons]; omega
    · have := filter_lt h h1 h2 l hx
      by_cases h3 : S y = true
      · rw [List.filter_cons_of_pos h3, List.filter_cons_of_pos (h y h3), List.length_cons, List.length_cons]; omega
      · rw [List.filter_cons_of_neg h3]
        by_cases h4 : S' y = true
        · rw [List.filter_cons_of_pos h4, List.length_cons]; omega
        · rw [List.filter_cons_of_neg h4]; exact this
/-- a round of joins: what is in, whether something was put in, which pairs were seen -/
structure GrowP (B : Tm → Prop) (S S' : Tm → Bool) (ag : Bool) (done : List (Tm × Tm)) : Prop where
  sub : ∀ t, S t = true → S' t = true
  clo : ∀ t, S' t = true → Clo B t
  more : ag = true → cntT S < cntT S'
  none : ag = false → (∀ t, S' t = S t) ∧ ∀ p ∈ done, S (tJoin p.1 p.2) = true
def addT (S : Tm → Bool) (x : Tm) : Tm → Bool := fun t => S t || decide (t = x)
theorem GrowP.start {B : Tm → Prop} {S : Tm → Bool} (h : ∀ t, S t = true → Clo B t) : GrowP B S S false [] := ⟨fun _ h => h, h, fun h => (by cases h), fun _ => ⟨fun _ => rfl, fun p hp => by cases hp⟩⟩
theorem GrowP.cntT {B : Tm → Prop} {S S' : Tm → Bool} {ag : Bool} {done : List (Tm × Tm)} (h : GrowP B S S' ag done) : X.cntT S ≤ X.cntT S' := filter_le h.sub allTm
theorem GrowP.had {B : Tm → Prop} {S S' : Tm → Bool} {ag : Bool} {done : List (Tm × Tm)} (h : GrowP B S S' ag done) {s t : Tm} (hx : S' (tJoin s t) = true) : GrowP B S S' ag (done ++ [(s, t)]) :=
  ⟨h.sub, h.clo, h.more, fun e => ⟨(h.none e).1, fun p hp => by
    rcases List.mem_append.1 hp with hp | hp
    · exact (h.none e).2 p hp
    · rw [List.mem_singleton.1 hp]; rw [← (h.none e).1]; exact hx⟩⟩
theorem GrowP.put {B : Tm → Prop} (hB : ∀ t, B t → tOk t = true) {S S' : Tm → Bool} {ag : Bool} {done : List (Tm × Tm)} (h : GrowP B S S' ag done) {s t : Tm} (hs : S s = true) (ht : S t = true) (hx : S' (tJoin s t) = false) (done' : List (Tm × Tm)) :
    GrowP B S (addT S' (tJoin s t)) true done' ∧ X.cntT S' < X.cntT (addT S' (tJoin s t)) := by
  have hc : Clo B (tJoin s t) := .join (h.clo s (h.sub s hs)) (h.clo t (h.sub t ht))
  have hm : ∀ u, S' u = true → addT S' (tJoin s t) u = true := fun u hu => by unfold addT; rw [hu]; rfl
  have hl : X.cntT S' < X.cntT (addT S' (tJoin s t)) := filter_lt hm hx (by unfold addT; simp) allTm (mem_allTm (hc.ok hB))
  have := h.cntT
  exact ⟨⟨fun u hu => hm u (h.sub u hu), fun u hu => (by
    unfold addT at hu
    simp only [Bool.or_eq_true, decide_eq_true_eq] at hu
    rcases hu with hu | rfl
    · exact h.clo u hu
    · exact hc), fun _ => by omega, fun e => by cases e⟩, hl⟩
def pairsT (l m : List Tm) : List (Tm × Tm) := l.flatMap fun s => m.map fun t => (s, t)
theorem pairsT_snoc {l : List Tm} {k : Nat} {x : Tm} (hx : l[k]? = some x) (m : List Tm) : pairsT (l.take (k + 1)) m = pairsT (l.take k) m ++ m.map fun t => (x, t) := by
  rw [take_snoc hx]; unfold pairsT; rw [List.flatMap_append]; simp
theorem mapT_snoc {l : List Tm} {k : Nat} {y : Tm} (hy : l[k]? = some y) (x : Tm) : (l.take (k + 1)).map (fun t => (x, t)) = (l.take k).map (fun t => (x, t)) ++ [(x, y)] := by rw [take_snoc hy, List.map_append]; rfl
theorem mem_pairsT {l m : List Tm} {s t : Tm} (hs : s ∈ l) (ht : t ∈ m) : (s, t) ∈ pairsT l m := List.mem_flatMap.2 ⟨s, hs, List.mem_map.2 ⟨t, ht, rfl⟩⟩
/-- between two rounds -/
structure FtI (B : Tm → Prop) (S : Tm → Bool) (ag : Bool) : Prop where
  base : ∀ t, B t → S t = true
  clo : ∀ t, S t = true → Clo B t
  shut : ag = false → ∀ s t, S s = true → S t = true → S (tJoin s t) = true
theorem GrowP.done {B : Tm → Prop} (hB : ∀ t, B t → tOk t = true) {S S' : Tm → Bool} {ag : Bool} (h : GrowP B S S' ag (pairsT (timesL S) (timesL S))) (hi : ∀ t, B t → S t = true) : FtI B S' ag :=
  ⟨fun t ht => h.sub t (hi t ht), h.clo, fun e s t hs ht => by
    obtain ⟨h1, h2⟩ := h.none e
    have ms := mem_timesL.2 ⟨(h.clo s hs).ok hB, (h1 s) ▸ hs⟩
    have mt := mem_timesL.2 ⟨(h.clo t ht).ok hB, (h1 t) ▸ ht⟩
    rw [h1]; exact h2 _ (mem_pairsT ms mt)⟩
def keyS (l : List Rw) (key : Int) : Tm → Bool := fun t => l.any fun r => (r.f0 == key) && decide (r.f2 = t)
theorem keyS_iff {l : List Rw} {key : Int} {t : Tm} : keyS l key t = true ↔ keyT l key t := by
  unfold keyS keyT
  rw [List.any_eq_true]
  exact ⟨fun ⟨r, hr, h⟩ => ⟨r, hr, by simpa using h⟩, fun ⟨r, hr, h⟩ => ⟨r, hr, by simpa using h⟩⟩
theorem FtI.start (l : List Rw) (key : Int) : FtI (keyT l key) (keyS l key) true := ⟨fun t h => keyS_iff.2 h, fun t h => .base (keyS_iff.1 h), fun h => by cases h⟩
theorem OwnT.lt {w : World} {b n : Nat} {S : Tm → Bool} (h : OwnT w b n S) : b < w.heap.size := by obtain ⟨D, ho, _⟩ := h; exact ho.lt
theorem OwnT.to {w : World} {b n n' : Nat} {S S' : Tm → Bool} (h : OwnT w b n S) (hn : n ≤ n') (hS : ∀ t, S' t = S t) : OwnT w b n' S' := by
  obtain ⟨D, ho, hM⟩ := h
  exact ⟨D, ho.mono hn, hM.im, fun t ht => by rw [hS]; exact hM.at_ t ht⟩
theorem wfT_ok {t : Tm} (h : tOk t = true) : wfT t := by
  simp only [tOk, Bool.and_eq_true, decide_eq_true_eq] at h
  exact ⟨wf_of (by omega) (by omega), wf_of (by omega) (by omega)⟩
set_option maxRecDepth 100000 in
set_option maxHeartbeats 8000000 in
theorem impl_FlowTimes (v : Value) (l : List Rw) (key : Int) (w : World) (h : Sl kRw w v l) : Calls Try.prog 14 #[v, .int .i64 key] w (RetR kTm 32 w (flowTimes l key)) := by
  have HS := Aside0.mk h
  have hmm := @run_makeMap Try.prog
  cases hs : rowsOk l
  · have HB := Aside0.mk (Below.refl w.heap.size w)
    go_enter Try.func14, Try.ntmps14
    go_wp2_with (go_at_call 68; ((with_reducible refine (impl_RowsOk _ l _ (HS.out.below HB.out)).mono ?_); rintro e w' ⟨rfl, hb⟩; replace HB := Aside0.mk (bthen HB.out hb); clear hb))
    go_ret
    exact RetR.mk (by rw [flowTimes, hs]; exact Kd.R_nil _ _ _ _ _) HB.out
  · obtain ⟨a1, a2⟩ := rowsOk_all hs
    have HFit := Aside0.mk (rowsOk_fit a2)
    have HOK := Aside0.mk (keyT_ok (key := key) a2)
    have HS' := Aside0.mk hs
    clear a2
    obtain ⟨A, c_, rfl, HC, hr⟩ := h
    have hm := Kd.C_max hr
    have HR := Aside0.mk hr
    clear hr
    have HB := Aside0.mk (Below.refl w.heap.size w)
    go_enter Try.func14, Try.ntmps14
    go_upto_region 3 with (go_at_call 68; ((with_reducible refine (impl_RowsOk _ l _ (HS.out.below HB.out)).mono ?_); rintro e wm ⟨rfl, hb⟩; replace HB := Aside0.mk (bthen HB.out hb); clear hb))
    have hws := HB.out.size
    go_wp2
    go_loopw [21] (fun i wr => ∃ k : Nat, k ≤ l.length ∧ i = .int .i64 k ∧ Aside0 (OwnT wr wm.heap.size k (keyS (l.take k) key)) ∧ Aside0 (Below w.heap.size w wr)) (fun i _ => l.length - (intOf i).toNat)
    case atStart => exact ⟨0, Nat.zero_le _, rfl, ⟨⟨_, World.ownsMap_made _ _ _ _, MapT.start⟩⟩, ⟨below_alloc HB.out _⟩⟩
    case round =>
      clear HB
      obtain ⟨k, hk, rfl, HM, HB⟩ := hrel
      by_cases hlt : k < l.length
      · obtain ⟨ad, x, e, HX, h0, h1, h2, h3, h4⟩ := rdRw HR.out HB.out hlt
        cases e
        have hwf : wfT x.f2 := by have := HFit.out.all x (List.mem_of_getElem? HX.out); exact ⟨this.1.2.2.1, this.1.2.2.2⟩
        go_upto_region 7 with fail
        refine name_world fun W hW => ?_
        have B0 : W.heap[wr.heap.size]? = some (.cells #[.int .i64 x.f0, .int .i64 x.f1, .int .i64 x.f2.f0, .int .i64 x.f2.f1, .int .i64 x.f3] 35 (0, 0)) := by rw [hW]; exact blk_new wr _
        have hb1 : Below wr.heap.size wr W := by rw [hW]; repeat (first | exact Below.refl _ _ | apply below_alloc | refine below_set ?_ (by simp))
        clear hW
        generalize hX : wr.heap.size = X at B0 ⊢
        have HM1 := Aside0.mk (HM.out.below hb1 HM.out.lt)
        replace HB := Aside0.mk (bthen HB.out hb1)
        have b0 : W.cell? ⟨X, 0, none⟩ = some (.int .i64 x.f0) := blk_cell B0 0
        have b2 : W.cell? ⟨X, 2, none⟩ = some (.int .i64 x.f2.f0) := blk_cell B0 2
        have b3 : W.cell? ⟨X, 3, none⟩ = some (.int .i64 x.f2.f1) := blk_cell B0 3
        have b4 : W.cell? ⟨X, 4, none⟩ = some (.int .i64 x.f3) := blk_cell B0 4
        clear h0 h1 h2 h3 h4 hb1 hX HM
        cases hk0 : (x.f0 == key)
        · have HK := Aside0.mk hk0
          go_wp2
          go_roundw
          case rel => exact ⟨k + 1, by omega, by go_num, ⟨HM1.out.to (by omega) (fun t => by unfold keyS; rw [take_snoc HX.out, List.any_append]; simp [HK.out])⟩, HB⟩
          case measure => simp [intOf]; omega
        · have HK := Aside0.mk hk0
          obtain ⟨D, hown, hMT⟩ := HM1.out
          have HOW := Aside0.mk hown
          have HMT := Aside0.mk hMT
          clear hown hMT HM1
          go_wp2_with (at_mapUpdate; refine wpList_mapUpdate_own _ rfl _ _ _ 95 rfl 32 4 (Keyed.of_law lawTm) Try.underlying95 (plainElem (H := Unit) Try.prog 4) wm.heap.size k _ rfl HOW.out (by unfold maxLen; omega) _ _ _ rfl rfl (keyTm hwf.1 hwf.2) _ [] (plainElem_bool Try.underlying4 true) ?_; intro w1 hown1 hgrow1; have HM2 : Aside0 (OwnT w1 wm.heap.size (k + 1) (keyS (l.take (k + 1)) key)) := ⟨⟨_, hown1, HMT.out.put hwf (fun t => by unfold keyS; rw [take_snoc HX.out, List.any_append]; simp [HK.out, eq_comm])⟩⟩; have HB2 := Aside0.mk (HB.out.grown hgrow1 HB.out.size (fun j hj => by cases hj; exact hws)); clear hown1 hgrow1)
          go_roundw
          case rel => exact ⟨k + 1, by omega, by go_num, HM2, HB2⟩
          case measure => simp [intOf]; omega
      · obtain rfl : k = l.length := by omega
        rw [List.take_length] at HM
        have HI := Aside0.mk (FtI.start l key)
        have HFT := Aside0.mk (fun (S : Tm → Bool) h1 h2 h3 => flowTimes_of (key := key) HS'.out (S := S) h1 h2 h3)
        generalize keyS l key = S0 at *
        generalize keyT l key = B at *
        go_wp2
        go_loopg [8] 65 (fun g f wr => ∃ (S : Tm → Bool) (n : Nat) (ag : Bool), f = .bool ag ∧ n ≤ l.length + cntT S ∧ (ag = true → 65 ≤ g + cntT S) ∧ Aside0 (FtI B S ag) ∧ Aside0 (OwnT wr wm.heap.size n S) ∧ Aside0 (Below w.heap.size w wr))
        case atStart => exact ⟨S0, l.length, true, rfl, by omega, fun _ => by omega, HI, HM, HB⟩
        case round =>
          clear HI HM HB
          obtain ⟨S, n, ag, rfl, hn, hg, HI, HM, HB⟩ := hrel
          have hc64 := cntT_le S
          cases ag
          · have hfl := HFT.out S HI.out.base HI.out.clo (HI.out.shut rfl)
            go_wp2_with (go_at_call 69; ((with_reducible refine (impl_timesOf wm.heap.size n S _ HM.out).mono ?_); rintro e w' ⟨u, rfl, hr, hb⟩; have HF := Aside0.mk (Kd.R_lower hr HB.out.size); replace HB := Aside0.mk (bthen HB.out hb); clear hr hb))
            go_ret
            exact RetR.mk (by rw [← hfl]; exact HF.out) HB.out
          · have hg0 := hg rfl
            have hrw := HM.out.lt
            go_upto_region 14 with (go_at_call 69; ((with_reducible refine (impl_timesOf wm.heap.size n S _ HM.out).mono ?_); rintro e wt ⟨u, rfl, hr, hb⟩; have HT := Aside0.mk (R_off hr HM.out.lt); replace HM := Aside0.mk (HM.out.below hb HM.out.lt); replace HB := Aside0.mk (bthen HB.out hb); clear hr hb))
            obtain ⟨A5, c5, rfl, hc5, hC5⟩ := Sl.of_R HT.out
            have hm5 := Kd.C_max hC5
            clear hC5
            have HDN := Aside0.mk (fun (S' : Tm → Bool) (ag : Bool) (h : GrowP B S S' ag (pairsT (timesL S) (timesL S))) => h.done HOK.out HI.out.base)
            have HIN := Aside0.mk (fun (t : Tm) (h : t ∈ timesL S) => (mem_timesL.1 h).2)
            have HST := Aside0.mk (GrowP.start HI.out.clo)
            clear HI
            generalize timesL S = ls at *
            generalize wr.heap.size = B5 at HT
            go_wp2
            go_loopw [8, 38] (fun f i wq => ∃ (j : Nat) (S' : Tm → Bool) (n' : Nat) (ag : Bool), j ≤ ls.length ∧ i = .int .i64 j ∧ f = .bool ag ∧ n' ≤ l.length + cntT S' ∧ Aside0 (GrowP B S S' ag (pairsT (ls.take j) ls)) ∧ Aside0 (OwnT wq wm.heap.size n' S') ∧ Aside0 (kTm.R 32 wq B5 (fun q => q ≠ wm.heap.size) (.slice A5 ls.length c5) ls) ∧ Aside0 (Below w.heap.size w wq)) (fun _ i _ => ls.length - (intOf i).toNat)
            case atStart => exact ⟨0, S, n, false, Nat.zero_le _, rfl, rfl, hn, HST, HM, HT, HB⟩
            case round =>
              clear HST HM HT HB
              obtain ⟨j, S', n', ag, hj, rfl, rfl, hn', HG, HM, HT, HB⟩ := hrel
              by_cases hlt : j < ls.length
              · obtain ⟨ad, x, e, HX, h0, h1⟩ := rdTm (Kd.R_reads' HT.out).2.2 (Below.refl _ _) hlt
                cases e
                have hxS := Aside0.mk (HIN.out x (List.mem_of_getElem? HX.out))
                go_upto_region 17 with fail
                refine name_world fun W1 hW => ?_
                have BX : W1.heap[wr.heap.size]? = some (.cells #[.int .i64 x.f0, .int .i64 x.f1] 32 (0, 0)) := by rw [hW]; exact blk_new wr _
                have hb1 : Below wr.heap.size wr W1 := by rw [hW]; repeat (first | exact Below.refl _ _ | apply below_alloc | refine below_set ?_ (by simp))
                clear hW
                generalize hX : wr.heap.size = X at BX ⊢
                have hXb := HM.out.lt
                replace HM := Aside0.mk (HM.out.below hb1 HM.out.lt)
                replace HT := Aside0.mk (Kd.R_below HT.out hb1)
                replace HB := Aside0.mk (bthen HB.out hb1)
                have HX1 := Aside0.mk BX
                have hXne : wm.heap.size < X := by omega
                clear BX hX hb1 h0 h1 hXb
                go_wp2
                go_loopw [8, 44] (fun f i wq => ∃ (m : Nat) (S' : Tm → Bool) (n' : Nat) (ag : Bool), m ≤ ls.length ∧ i = .int .i64 m ∧ f = .bool ag ∧ n' ≤ l.length + cntT S' ∧ Aside0 (GrowP B S S' ag (pairsT (ls.take j) ls ++ (ls.take m).map fun t => (x, t))) ∧ Aside0 (OwnT wq wm.heap.size n' S') ∧ Aside0 (kTm.R 32 wq B5 (fun q => q ≠ wm.heap.size) (.slice (some ad) ls.length c5) ls) ∧ Aside0 (wq.heap[X]? = some (.cells #[.int .i64 x.f0, .int .i64 x.f1] 32 (0, 0))) ∧ Aside0 (Below w.heap.size w wq)) (fun _ i _ => ls.length - (intOf i).toNat)
                case atStart => exact ⟨0, S', n', ag, Nat.zero_le _, rfl, rfl, hn', by simpa using HG, HM, HT, HX1, HB⟩
                case round =>
                  clear HG HM HT HX1 HB hn'
                  obtain ⟨m, S', n', ag, hm, rfl, rfl, hn', HG, HM, HT, HX1, HB⟩ := hrel
                  by_cases hlt2 : m < ls.length
                  · obtain ⟨ad', y, e, HY, h0, h1⟩ := rdTm (Kd.R_reads' HT.out).2.2 (Below.refl _ _) hlt2
                    cases e
                    have hyS := Aside0.mk (HIN.out y (List.mem_of_getElem? HY.out))
                    have hc2 := cntT_le S'
                    go_upto_region 20 with fail
                    refine name_world fun W2 hW => ?_
                    have BY : W2.heap[wr.heap.size]? = some (.cells #[.int .i64 y.f0, .int .i64 y.f1] 32 (0, 0)) := by rw [hW]; exact blk_new wr _
                    have hb1 : Below wr.heap.size wr W2 := by rw [hW]; repeat (first | exact Below.refl _ _ | apply below_alloc | refine below_set ?_ (by simp))
                    clear hW
                    generalize hY : wr.heap.size = Y at BY ⊢
                    replace HM := Aside0.mk (HM.out.below hb1 HM.out.lt)
                    replace HT := Aside0.mk (Kd.R_below HT.out hb1)
                    replace HB := Aside0.mk (bthen HB.out hb1)
                    replace HX1 := Aside0.mk (blk_below HX1.out hb1)
                    have k0 := blk_cell HX1.out 0
                    have k1 := blk_cell HX1.out 1
                    have k2 := blk_cell BY 0
                    have k3 := blk_cell BY 1
                    clear hY hb1 h0 h1 BY
                    obtain ⟨z, hz⟩ : ∃ z, z = tJoin x y := ⟨_, rfl⟩
                    have TJ : ∀ W, Calls Try.prog 19 #[.agg #[.int .i64 x.f0, .int .i64 x.f1], .agg #[.int .i64 y.f0, .int .i64 y.f1]] W (RetV W (.agg #[.int .i64 z.f0, .int .i64 z.f1])) := fun W => by rw [hz]; exact impl_TimeJoin x.f0 x.f1 y.f0 y.f1 W
                    have HZ := Aside0.mk hz
                    have hwz : wfT z := by rw [hz]; exact wfT_ok ((Clo.join (HG.out.clo x (HG.out.sub x hxS.out)) (HG.out.clo y (HG.out.sub y hyS.out))).ok HOK.out)
                    clear hz
                    go_upto_region 21 with (go_at_call 19; ((with_reducible refine (TJ _).mono ?_); rintro e w3 ⟨rfl, hb⟩; replace HM := Aside0.mk (HM.out.below hb HM.out.lt); replace HT := Aside0.mk (Kd.R_below HT.out hb); replace HX1 := Aside0.mk (blk_below HX1.out hb); replace HB := Aside0.mk (bthen HB.out hb); clear hb k0 k1 k2 k3))
                    refine name_world fun W4 hW => ?_
                    have BZ : W4.heap[w3.heap.size]? = some (.cells #[.int .i64 z.f0, .int .i64 z.f1] 32 (0, 0)) := by rw [hW]; exact blk_new w3 _
                    have hb1 : Below w3.heap.size w3 W4 := by rw [hW]; repeat (first | exact Below.refl _ _ | apply below_alloc | refine below_set ?_ (by simp))
                    clear hW
                    generalize hZ : w3.heap.size = Z at BZ ⊢
                    replace HM := Aside0.mk (HM.out.below hb1 HM.out.lt)
                    replace HT := Aside0.mk (Kd.R_below HT.out hb1)
                    replace HB := Aside0.mk (bthen HB.out hb1)
                    replace HX1 := Aside0.mk (blk_below HX1.out hb1)
                    have k2 := blk_cell BZ 0
                    have k3 := blk_cell BZ 1
                    clear hZ hb1 BZ TJ
                    obtain ⟨D, hown, hMT⟩ := HM.out
                    have HOW := Aside0.mk hown
                    have HMT := Aside0.mk hMT
                    clear hown hMT HM
                    cases hSz : S' z
                    · have HSZ := Aside0.mk hSz
                      have hput := HG.out.put HOK.out hxS.out hyS.out (by rw [← HZ.out]; exact hSz) (pairsT (ls.take j) ls ++ (ls.take (m + 1)).map fun t => (x, t))
                      rw [← HZ.out] at hput
                      obtain ⟨hp1, hp2⟩ := hput
                      have HG2 := Aside0.mk hp1
                      clear hSz hp1
                      go_wp2_with (first
                        | (at_lookup; refine wpList_lookup_own_bool _ rfl _ _ 95 rfl 32 4 (Keyed.of_law lawTm) Try.underlying95 Try.underlying4 (zeroB _) wm.heap.size n' D rfl HOW.out _ _ rfl (keyTm hwz.1 hwz.2) ?_; intro c hat; obtain rfl : c = false := HMT.out.look hwz hat HSZ.out; clear hat)
                        | (at_mapUpdate; refine wpList_mapUpdate_own _ rfl _ _ _ 95 rfl 32 4 (Keyed.of_law lawTm) Try.underlying95 (plainElem (H := Unit) Try.prog 4) wm.heap.size n' _ rfl HOW.out (by unfold maxLen; omega) _ _ _ rfl rfl (keyTm hwz.1 hwz.2) _ [] (plainElem_bool Try.underlying4 true) ?_; intro w1 hown1 hgrow1; have HM2 : Aside0 (OwnT w1 wm.heap.size (n' + 1) (addT S' z)) := ⟨⟨_, hown1, HMT.out.put hwz (fun t => rfl)⟩⟩; have HB2 := Aside0.mk (HB.out.grown hgrow1 HB.out.size (fun j hj => by cases hj; exact hws)); have HT2 := Aside0.mk (R_pick HT.out hgrow1 (fun q hq => hq)); have HX2 := Aside0.mk (blk_grown HX1.out hgrow1 (by intro e; have := Option.some.inj e; omega)); clear hown1 hgrow1))
                      go_roundw
                      case rel => exact ⟨m + 1, addT S' z, n' + 1, true, by omega, by go_num, rfl, by omega, HG2, HM2, HT2, HX2, HB2⟩
                      case measure => simp [intOf]; omega
                    · have HSZ := Aside0.mk hSz
                      have HG2 := Aside0.mk (HG.out.had (s := x) (t := y) (by rw [← HZ.out]; exact hSz))
                      clear hSz
                      go_wp2_with (at_lookup; refine wpList_lookup_own_bool _ rfl _ _ 95 rfl 32 4 (Keyed.of_law lawTm) Try.underlying95 Try.underlying4 (zeroB _) wm.heap.size n' D rfl HOW.out _ _ rfl (keyTm hwz.1 hwz.2) ?_; intro c hat; obtain rfl : c = true := HMT.out.look hwz hat HSZ.out; clear hat)
                      go_roundw
                      case rel => exact ⟨m + 1, S', n', ag, by omega, by go_num, rfl, hn', ⟨by rw [mapT_snoc HY.out, ← List.append_assoc]; exact HG2.out⟩, ⟨⟨D, HOW.out, HMT.out⟩⟩, HT, HX1, HB⟩
                      case measure => simp [intOf]; omega
                  · obtain rfl : m = ls.length := by omega
                    rw [List.take_length] at HG
                    go_wp2
                    go_roundw
                    case rel => exact ⟨j + 1, S', n', ag, by omega, by go_num, rfl, hn', ⟨by rw [pairsT_snoc HX.out]; exact HG.out⟩, HM, HT, HB⟩
                    case measure => simp [intOf]; omega
              · obtain rfl : j = ls.length := by omega
                rw [List.take_length] at HG
                have HI2 := Aside0.mk (HDN.out S' ag HG.out)
                have hmo := HG.out.more
                go_wp2
                go_roundg (if ag = true then 65 - cntT S' else 0)
                case measure => cases ag <;> simp <;> (try have := hmo rfl) <;> omega
                case rel => exact ⟨S', n', ag, rfl, hn', fun e => by rw [if_pos e]; omega, HI2, HM, HB⟩
end Go.Proofs.Ytdppnipodndcpaa.X
