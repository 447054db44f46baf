/- The walks of what a plan's text is. Conditions: plans that are ok. -/
import Derived.Test.YtffibnbnabppjaaDoorXPlT
import Derived.Test.YtffibnbnabppjaaDoorXPnOk
import Derived.Test.YtffibnbnabppjaaDoorPPlPx0
import Derived.Test.YtffibnbnabppjaaDoorPPlPx1
import Derived.Test.YtffibnbnabppjaaDoorPPlPx2
import Derived.Test.YtffibnbnabppjaaDoorXItoa
namespace Go.Proofs.YtffibnbnabppjaaDoor.X
open Go.RowKit Go.Proofs.YtffibnbnabppjaaDoorW.PrintWords
set_option linter.unusedVariables false
set_option linter.unusedSimpArgs false

set_option maxRecDepth 100000 in
set_option maxHeartbeats 1000000 in
theorem impl_planName (a b : Int) (l : List Pn) (v : Value) (w : World) (h : Sl kPn w v l) (h1 : 1 ≤ a) (h6 : a ≤ 6) (hb : 0 ≤ b) (hb9 : b < 10) : Calls Tryd.prog 20 #[.agg #[.int .i64 a, .int .i64 b, v]] w (RetV w (.string ⟨(nameP a b).toArray⟩)) := by
  obtain ⟨A, c, rfl, hc, hr⟩ := h
  clear hr
  have I := fun w => itoa1 hb hb9 w
  have HB := Aside0.mk (Below.refl w.heap.size w)
  go_enter Tryd.func20, Tryd.ntmps20
  rcases (show a = 1 ∨ a = 2 ∨ a = 3 ∨ a = 4 ∨ a = 5 ∨ a = 6 by omega) with rfl | rfl | rfl | rfl | rfl | rfl
  all_goals
    go_wp2_with (go_at_call 23; ((with_reducible refine (I _).mono ?_); rintro e w' ⟨rfl, rfl⟩))
    go_ret
    exact RetV.mk (congrArg Value.string (ByteArray.ext (by simp [nameP, wordP, ByteArray.data_append, UInt8.ofNat_add]))) (below_alloc HB.out _)
theorem pok_num {a b : Int} {l : List Pn} {d : Nat} (h : pok (d + 1) a b l = true) : 1 ≤ a ∧ a ≤ 6 ∧ 0 ≤ b ∧ b < 10 ∧ l.length ≤ 2 := by
  rw [pok, Bool.and_eq_true, decide_eq_true_eq] at h
  obtain ⟨⟨h1, h2, h3⟩, _⟩ := h
  unfold kids3 at h1 h2 h3
  repeat' split at h1
  all_goals simp_all
  all_goals omega
theorem pok_kid {a b : Int} {l : List Pn} {d : Nat} (h : pok (d + 1) a b l = true) {x : Pn} (hx : x ∈ l) : pok d x.f0 x.f1 x.f2 = true := by
  rw [pok, Bool.and_eq_true, List.all_eq_true] at h
  exact h.2 x hx
def lenB : Nat → Nat
  | 0 => 0
  | d + 1 => 7 + 2 * lenB d
theorem nameP_len (a b : Int) : (nameP a b).length ≤ 5 := by
  unfold nameP wordP
  rw [List.length_append]
  repeat' split
  all_goals simp
theorem pok_len : ∀ (d : Nat) (a b : Int) (l : List Pn), pok d a b l = true → (nameP a b ++ textL l).length ≤ lenB d := by
  intro d
  induction d with
  | zero => intro a b l h; simp [pok] at h
  | succ d ih =>
    intro a b l h
    have hn := nameP_len a b
    have h2 := (pok_num h).2.2.2.2
    have hk : ∀ x ∈ l, (textP x).length ≤ lenB d := fun x hx => by rw [textP_eq]; exact ih _ _ _ (pok_kid h hx)
    rw [List.length_append, lenB]
    match l, h2, hk with
    | [], _, _ => simp [textL]; omega
    | [x], _, hk => have := hk x (by simp); simp [textL]; omega
    | [x, y], _, hk => have h1 := hk x (by simp); have h2 := hk y (by simp); simp [textL]; omega
    | x :: y :: z :: l, h2, _ => simp at h2
set_option maxRecDepth 100000 in
set_option maxHeartbeats 4000000 in
theorem impl_planText_d : ∀ (d : Nat), lenB d ≤ 1000000 → ∀ (a b : Int) (l : List Pn), pok d a b l = true → ∀ (v : Value) (w : World), Sl kPn w v l → Calls Tryd.prog 14 #[.agg #[.int .i64 a, .int .i64 b, v]] w (RetV w (.string ⟨(nameP a b ++ textL l).toArray⟩)) := by
  intro d
  induction d with
  | zero => intro _ a b l h; simp [pok] at h
  | succ d ih =>
    intro hd a b l hp v w h
    rw [lenB] at hd
    have ih := ih (by omega)
    have hnm := nameP_len a b
    have HL := Aside0.mk (fun x hx => by have := pok_len d _ _ _ (pok_kid hp (x := x) hx); rw [← textP_eq] at this; exact this)
    have HLT := Aside0.mk (show (textL l).length ≤ 2000010 by have := pok_len (d + 1) a b l hp; rw [List.length_append, lenB] at this; omega)
    have HI := Aside0.mk ih
    have HP := Aside0.mk hp
    obtain ⟨n1, n2, n3, n4, n5⟩ := pok_num hp
    have HS := Aside0.mk h
    have HN := Aside0.mk (fun v W h => impl_planName a b l v W h n1 n2 n3 n4)
    generalize nameP a b = nm at *
    clear ih hp n1 n2 n3 n4
    obtain ⟨A, c, rfl, hc, hr⟩ := h
    have HR := Aside0.mk hr
    clear hr
    go_enter Tryd.func14, Tryd.ntmps14
    go_upto_region 1 with fail
    refine name_world fun W0 hW0 => ?_
    have hb0 : Below w.heap.size w W0 := hW0 ▸ below_alloc (Below.refl _ _) _
    have B0 : W0.cell? ⟨w.heap.size, 0, none⟩ = some (.int .i64 a) := by rw [hW0]; simp
    have B1 : W0.cell? ⟨w.heap.size, 1, none⟩ = some (.int .i64 b) := by rw [hW0]; simp
    have B2 : W0.cell? ⟨w.heap.size, 2, none⟩ = some (.slice A l.length c) := by rw [hW0]; simp
    clear hW0
    have HB := Aside0.mk hb0
    clear hb0
    go_upto_region 3 with (go_at_call 20; ((with_reducible refine (HN.out _ _ (HS.out.below HB.out)).mono ?_); rintro e w2 ⟨rfl, hb⟩; replace HB := Aside0.mk (bthen HB.out hb); replace B2 := pw_cell_below hb B2; clear hb B0 B1))
    clear B2
    go_wp2
    go_loopw [3, 11] (fun sv i wr => ∃ (k : Nat), k ≤ l.length ∧ sv = .string ⟨(nm ++ textL (l.take k)).toArray⟩ ∧ i = .int .i64 k ∧ Aside0 (Below w.heap.size w wr)) (fun _ i _ => l.length - (intOf i).toNat)
    case atStart => exact ⟨0, Nat.zero_le _, by rw [List.take_zero, textL, List.append_nil], rfl, HB⟩
    case round =>
      clear HB
      obtain ⟨k, hk, rfl, rfl, HB⟩ := hrel
      by_cases hlt : k < l.length
      · obtain ⟨ad, x, B, d2, e, HX, p0, p1, p2, HKx⟩ := rdPn HR.out HB.out hlt
        cases e
        have ex : (⟨x.f0, x.f1, x.f2⟩ : Pn) = x := by cases x; rfl
        have HC := Aside0.mk (fun v w h => by have := HI.out x.f0 x.f1 x.f2 (pok_kid HP.out (List.mem_of_getElem? HX.out)) v w h; rw [← textP_eq] at this; exact this)
        have HT := Aside0.mk (textL_take HX.out)
        clear ex
        have hx1 := HL.out x (List.mem_of_getElem? HX.out)
        have hx2 : (textL (l.take k)).length ≤ 2000010 := by
          have h := HLT.out
          rw [← List.take_append_drop k l, textL_app, List.length_append] at h
          omega
        generalize textP x = tx at *
        generalize textL (l.take k) = tk at *
        go_upto_region 5 with fail
        refine name_world fun W1 hW1 => ?_
        have hb1 : Below wr.heap.size wr W1 := hW1 ▸ below_alloc (Below.refl _ _) _
        have X0 : W1.cell? ⟨wr.heap.size, 0, none⟩ = some (.int .i64 x.f0) := by rw [hW1]; simp
        have X1 : W1.cell? ⟨wr.heap.size, 1, none⟩ = some (.int .i64 x.f1) := by rw [hW1]; simp
        have X2 : W1.cell? ⟨wr.heap.size, 2, none⟩ = some (.slice B x.f2.length d2) := by rw [hW1]; simp
        clear hW1
        replace HB := Aside0.mk (bthen HB.out hb1)
        replace HKx := Aside0.mk (HKx.out.below hb1)
        clear hb1 p0 p1 p2
        go_wp2_with (go_at_call 14; ((with_reducible refine (HC.out _ _ HKx.out).mono ?_); rintro e w2 ⟨rfl, hb⟩; replace HB := Aside0.mk (bthen HB.out hb); clear hb))
        go_roundw
        case rel => exact ⟨k + 1, by omega, congrArg Value.string (ByteArray.ext (by rw [HT.out]; simp [ByteArray.data_append])), by go_num, HB⟩
        case measure => simp [intOf]; omega
      · have ek : k = l.length := by omega
        subst ek
        rw [List.take_length]
        go_wp2
        go_ret
        exact RetV.mk rfl HB.out
end Go.Proofs.YtffibnbnabppjaaDoor.X
