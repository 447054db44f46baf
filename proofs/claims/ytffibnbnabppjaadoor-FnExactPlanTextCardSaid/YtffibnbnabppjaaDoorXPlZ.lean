/- The walk of spec.l6Dec at a number of one digit. Conditions: 0 to 9. -/
import Derived.Test.YtffibnbnabppjaaDoorXPlX
import Derived.Laws.IdiomStrings
import Derived.Deep.DeepCutAuto
namespace Go.Proofs.YtffibnbnabppjaaDoor.X
open Go.RowKit Go.Proofs.YtffibnbnabppjaaDoorW.PrintWords
set_option linter.unusedVariables false
set_option linter.unusedSimpArgs false

theorem digit8 {b : Int} (h0 : 0 ≤ b) (h9 : b < 10) : ((UInt8.ofNat (48 + b.toNat)).toNat : Int) = 48 + b := by
  rw [UInt8.toNat_ofNat']
  omega
theorem conv1 (w : World) (n : Int) (z : UInt8) (hz : (z.toNat : Int) = n) : (convert 43 9 (.slice (some ⟨w.heap.size, 0, none⟩) 1 1)).run Tryd.prog (w.alloc (.cells #[.int .u8 n] 5)) = .ok (.string ⟨#[z]⟩) (w.alloc (.cells #[.int .u8 n] 5)) :=
  run_convert_bytes_back (P := Tryd.prog) _ 43 9 5 ⟨w.heap.size, 0, none⟩ 1 [z] Tryd.underlying43 Tryd.underlying5 Tryd.underlying9 (fun j hj => by
    have h0 : j = 0 := by simpa using hj
    subst h0
    have ha : (⟨w.heap.size, 0, none⟩ : Addr).add 0 = ⟨w.heap.size, 0, none⟩ := by unfold Addr.add; simp
    rw [ha]
    simp [hz])
set_option maxRecDepth 100000 in
set_option maxHeartbeats 1000000 in
theorem spec_l6Dec (b : Int) (h0 : 0 ≤ b) (h9 : b < 10) (w : World) : Calls Tryd.prog 18 #[.int .i64 b] w (RetV w (.string ⟨#[UInt8.ofNat (48 + b.toNat)]⟩)) := by
  have hz := digit8 h0 h9
  generalize UInt8.ofNat (48 + b.toNat) = z at *
  have HC := fun w => conv1 w (48 + b) z hz
  clear hz
  have HB := Aside0.mk (Below.refl w.heap.size w)
  go_enter Tryd.func18, Tryd.ntmps18
  go_wp2
  go_ret
  exact RetV.mk rfl (below_alloc HB.out _)
theorem spec_l21Kids (a : Int) (w : World) : Calls Tryd.prog 17 #[.int .i64 a] w (RetV w (.tuple #[.int .i64 (kids3 a).1, .int .i64 (kids3 a).2.1, .int .i64 (kids3 a).2.2])) := by
  obtain ⟨k, hk⟩ := (kids_spec a).get
  exact (PPlP.spec_l21Kids.calls k a (kids3 a).1 (kids3 a).2.1 (kids3 a).2.2 w hk).mono fun e w' h => ⟨h.1, h.2.below⟩
/-- the last of a kind's bounds is above 0 where it bears a number -/
theorem kids_num {a : Int} (h1 : 1 ≤ a) (h6 : a ≤ 6) : 0 < (kids3 a).2.2 ↔ (a = 1 ∨ a = 2 ∨ a = 6) := by
  rcases (show a = 1 ∨ a = 2 ∨ a = 3 ∨ a = 4 ∨ a = 5 ∨ a = 6 by omega) with rfl | rfl | rfl | rfl | rfl | rfl <;> simp [kids3]
set_option maxRecDepth 100000 in
set_option maxHeartbeats 4000000 in
theorem spec_l21Say_d : ∀ (d : Nat), lenB d ≤ 1000000 → ∀ (a b : Int) (l : List Pn), pok d a b l = true → ∀ (v : Value) (w : World), Sl kPn w v l → Calls Tryd.prog 11 #[.agg #[.int .i64 a, .int .i64 b, v]] w (RetV w (.string ⟨(nameP a b ++ textL l).toArray⟩)) := by
  intro d
  induction d with
  | zero => intro _ a b l h; simp [pok] at h
  | succ d ih =>
    intro hd a b l hp v w h
    rw [lenB] at hd
    have ih := ih (by omega)
    have hnm := nameP_len a b
    have HL := Aside0.mk (fun x hx => by have := pok_len d _ _ _ (pok_kid hp (x := x) hx); rw [← textP_eq] at this; exact this)
    have HLT := Aside0.mk (show (textL l).length ≤ 2000010 by have := pok_len (d + 1) a b l hp; rw [List.length_append, lenB] at this; omega)
    have HI := Aside0.mk ih
    have HP := Aside0.mk hp
    obtain ⟨n1, n2, n3, n4, n5⟩ := pok_num hp
    have HS := Aside0.mk h
    have HK := Aside0.mk (fun W => spec_l21Kids a W)
    have HD := Aside0.mk (fun W => spec_l6Dec b n3 n4 W)
    have HNM := Aside0.mk (show nameP a b = wordP a ++ (if 0 < (kids3 a).2.2 then [UInt8.ofNat (48 + b.toNat)] else []) by unfold nameP; simp only [kids_num n1 n2])
    generalize nameP a b = nm at *
    generalize UInt8.ofNat (48 + b.toNat) = z at *
    generalize kids3 a = ks at *
    obtain ⟨k1, k2, k3⟩ := ks
    replace HK : Aside0 (∀ W, Calls Tryd.prog 17 #[.int .i64 a] W (RetV W (.tuple #[.int .i64 k1, .int .i64 k2, .int .i64 k3]))) := HK
    replace HNM : Aside0 (nm = wordP a ++ (if 0 < k3 then [z] else [])) := HNM
    clear ih hp n3 n4
    obtain ⟨A, c, rfl, hc, hr⟩ := h
    have HR := Aside0.mk hr
    clear hr
    go_enter Tryd.func11, Tryd.ntmps11
    go_upto_region 1 with fail
    refine name_world fun W0 hW0 => ?_
    have hb0 : Below w.heap.size w W0 := hW0 ▸ below_alloc (Below.refl _ _) _
    have B0 : W0.cell? ⟨w.heap.size, 0, none⟩ = some (.int .i64 a) := by rw [hW0]; simp
    have B1 : W0.cell? ⟨w.heap.size, 1, none⟩ = some (.int .i64 b) := by rw [hW0]; simp
    have B2 : W0.cell? ⟨w.heap.size, 2, none⟩ = some (.slice A l.length c) := by rw [hW0]; simp
    clear hW0
    have HB := Aside0.mk hb0
    clear hb0
    go_cut [3] (fun s wc => s = .string ⟨(wordP a).toArray⟩ ∧ wc.cell? ⟨w.heap.size, 0, none⟩ = some (.int .i64 a) ∧ wc.cell? ⟨w.heap.size, 1, none⟩ = some (.int .i64 b) ∧ wc.cell? ⟨w.heap.size, 2, none⟩ = some (.slice A l.length c) ∧ Aside0 (Below w.heap.size w wc))
    case first =>
      clear HK HD HNM HI HP HL HLT HS HR
      have hb := below_alloc (Below.refl W0.heap.size W0) (.cells #[.string ⟨#[]⟩, .string ⟨#[105, 110]⟩, .string ⟨#[101, 97, 99, 104]⟩, .string ⟨#[98, 111, 116, 104]⟩, .string ⟨#[108, 101, 115, 115]⟩, .string ⟨#[106, 111, 105, 110]⟩, .string ⟨#[115, 117, 109]⟩] 9)
      have q0 := pw_cell_below hb B0
      have q1 := pw_cell_below hb B1
      have q2 := pw_cell_below hb B2
      have HB := Aside0.mk (bthen HB.out hb)
      clear hb
      rcases (show a = 1 ∨ a = 2 ∨ a = 3 ∨ a = 4 ∨ a = 5 ∨ a = 6 by omega) with rfl | rfl | rfl | rfl | rfl | rfl
      all_goals
        go_wp2
        go_meet
        exact ⟨rfl, q0, q1, q2, HB⟩
    case rest =>
      clear HB B0 B1 B2
      obtain ⟨rfl, B0, B1, B2, HB⟩ := hcut
      clear n1 n2
      go_at_K
      go_upto_region 3 with (go_at_call 17; ((with_reducible refine (HK.out _).mono ?_); rintro e w2 ⟨rfl, hb⟩; replace HB := Aside0.mk (bthen HB.out hb); replace B0 := pw_cell_below hb B0; replace B1 := pw_cell_below hb B1; replace B2 := pw_cell_below hb B2; clear hb))
      clear HK B0
      go_upto_if 21 with fail
      go_cut [3] (fun s wc => s = .string ⟨nm.toArray⟩ ∧ wc.cell? ⟨w.heap.size, 2, none⟩ = some (.slice A l.length c) ∧ Aside0 (Below w.heap.size w wc))
      case first =>
        clear HI HP HL HLT HS HR
        have hwl : (wordP a).length ≤ 5 := by rw [HNM.out] at hnm; rw [List.length_append] at hnm; omega
        generalize wordP a = wd at *
        by_cases hk : 0 < k3
        · have HQ := Aside0.mk (show nm = wd ++ [z] by rw [HNM.out, if_pos hk])
          clear HNM hnm
          go_wp2_with (go_at_call 18; ((with_reducible refine (HD.out _).mono ?_); rintro e w3 ⟨rfl, hb⟩; replace HB := Aside0.mk (bthen HB.out hb); replace B2 := pw_cell_below hb B2; clear hb))
          go_meet
          exact ⟨congrArg Value.string (ByteArray.ext (by rw [HQ.out]; simp [ByteArray.data_append])), B2, HB⟩
        · have HQ := Aside0.mk (show nm = wd by rw [HNM.out, if_neg hk, List.append_nil])
          clear HNM hnm
          go_wp2
          go_meet
          exact ⟨by rw [HQ.out], B2, HB⟩
      case rest =>
        clear HB B1 B2 HD HNM
        obtain ⟨rfl, B2, HB⟩ := hcut
        go_at_K
        try go_at_K
        go_wp2
        go_loopw [3, 7] (fun sv i wr => ∃ (k : Nat), k ≤ l.length ∧ sv = .string ⟨(nm ++ textL (l.take k)).toArray⟩ ∧ i = .int .i64 k ∧ Aside0 (wr.cell? ⟨w.heap.size, 2, none⟩ = some (.slice A l.length c)) ∧ Aside0 (Below w.heap.size w wr)) (fun _ i _ => l.length - (intOf i).toNat)
        case atStart => exact ⟨0, Nat.zero_le _, by rw [List.take_zero, textL, List.append_nil], rfl, ⟨B2⟩, HB⟩
        case round =>
          clear HB B2
          obtain ⟨k, hk, rfl, rfl, HB2, HB⟩ := hrel
          have B2 := HB2.out
          by_cases hlt : k < l.length
          · obtain ⟨ad, x, B, d2, e, HX, p0, p1, p2, HKx⟩ := rdPn HR.out HB.out hlt
            cases e
            have HC := Aside0.mk (fun v w h => by have := HI.out x.f0 x.f1 x.f2 (pok_kid HP.out (List.mem_of_getElem? HX.out)) v w h; rw [← textP_eq] at this; exact this)
            have HT := Aside0.mk (textL_take HX.out)
            have hx1 := HL.out x (List.mem_of_getElem? HX.out)
            have hx2 : (textL (l.take k)).length ≤ 2000010 := by
              have h := HLT.out
              rw [← List.take_append_drop k l, textL_app, List.length_append] at h
              omega
            generalize textP x = tx at *
            generalize textL (l.take k) = tk at *
            go_wp2_with (go_at_call 11; ((with_reducible refine (HC.out _ _ HKx.out).mono ?_); rintro e w2 ⟨rfl, hb⟩; replace HB := Aside0.mk (bthen HB.out hb); replace HB2 := Aside0.mk (pw_cell_below hb B2); clear hb))
            go_roundw
            case rel => exact ⟨k + 1, by omega, congrArg Value.string (ByteArray.ext (by rw [HT.out]; simp [ByteArray.data_append])), by go_num, HB2, HB⟩
            case measure => simp [intOf]; omega
          · have ek : k = l.length := by omega
            subst ek
            rw [List.take_length]
            go_wp2
            go_ret
            exact RetV.mk rfl HB.out
end Go.Proofs.YtffibnbnabppjaaDoor.X
