/- Draws of rows, some spoilt. Conditions: a reader of at most 2000 bytes, few draws so far. -/
import Derived.Test.YtdppnipodndcpaaXDrRow2
namespace Go.Proofs.Ytdppnipodndcpaa.X
open Go.RowKit Go.Proofs.YtdppnipodndcpaaW.PrintWords
set_option linter.unusedVariables false
set_option linter.unusedSimpArgs false

set_option maxRecDepth 100000 in
set_option maxHeartbeats 2000000 in
theorem spec_l71Any {w0 W : World} {rb : Nat} {s : List Int} {p : Int} (hS : Aside0 (RS s)) (h : Rd w0 rb s p W) (hp : p ≤ 400000) :
    Calls Try.prog 66 #[.pointer (some ⟨rb, 0, none⟩)] W (RowsP w0 rb s p W) := by
  have hbl := h.lt
  have hbs := h.bel.size
  have hnn := h.nn
  have C1 := spec_l71Rows hS h (by omega) 10 (by omega)
  rw [show ((10 : Nat) : Int) = 10 from rfl] at C1
  have HR := Aside0.mk h
  have HV := Aside0.mk (show W.grownBy W (some rb) from ⟨rfl, rfl, rfl, Nat.le_refl _, fun _ _ _ => rfl⟩)
  clear h
  go_enter Try.func66, Try.ntmps66
  go_upto_region 2 with (go_at_call 122; ((with_reducible refine C1.mono ?_); rintro e wa ⟨va, la, rfl, hra, hsm, hla, hadv⟩; have HLA := Aside0.mk hsm; have HO := Aside0.mk (R_off hra hbl); obtain ⟨p1, g0, g1, hr1, hg1⟩ := hadv; replace HR := Aside0.mk hr1; replace HV := Aside0.mk hg1; clear hr1 hg1 hra hsm))
  clear C1
  go_upto_if 8 with (go_at_call 67; ((with_reducible refine (spec_pick hS.out HR.out (by omega) 14 (by omega) (by omega)).mono ?_); rintro e w' ⟨t, rfl, t0, t1, hr, hg⟩; replace HO := Aside0.mk (R_pick HO.out hg (fun q hq => by first | exact hq | exact hq.1 | exact hq.2)); replace HV := Aside0.mk (gthen HV.out hg); replace HR := Aside0.mk hr; clear hr hg))
  by_cases ht0 : t = 0
  · have htb : (t == 0) = true := by rw [ht0]; rfl
    have hgs := HV.out.size
    go_wp2_with (go_at_call 123; ((with_reducible refine (spec_l71Spoil hS HR.out (by omega) va la (Sl.of_R HO.out) (Kd.R_lower HO.out (by omega)) hla).mono ?_); rintro e w3 ⟨v2, l2, rfl, hr2, hd2, p3, g3, g4, hrd, hg⟩; have HO2 := Aside0.mk (Kd.R_lower hr2 hgs); have HD := Aside0.mk hd2; have HR3 := Aside0.mk hrd; have HV3 := Aside0.mk (gthen HV.out hg); clear hr2 hd2 hrd hg))
    go_ret
    exact RowsP.mk HO2.out HD.out ⟨p3, by omega, by omega, HR3.out, HV3.out⟩
  · have htb : (t == 0) = false := by simp [ht0]
    go_wp2
    go_ret
    exact RowsP.mk (Kd.R_mono HO.out (fun _ _ => trivial)) (RowsD.good hla HLA.out) ⟨p1 + 1, by omega, by omega, HR.out, HV.out⟩
end Go.Proofs.Ytdppnipodndcpaa.X
