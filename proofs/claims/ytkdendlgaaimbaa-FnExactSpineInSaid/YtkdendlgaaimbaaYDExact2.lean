/- Conditions: none. -/
import Derived.Test.YtkdendlgaaimbaaYCBs
import Derived.Test.YtkdendlgaaimbaaYDBs
import Derived.Test.YtkdendlgaaimbaaYDSa
import Derived.Test.YtkdendlgaaimbaaVAEqStruct
namespace Go.Proofs.Ytkdendlgaaimbaa.X
open Go.RowKit Go.Proofs.YtkdendlgaaimbaaW.PrintWords
set_option linter.unusedVariables false
set_option linter.unusedSimpArgs false
set_option maxRecDepth 100000 in
set_option maxHeartbeats 400000 in
theorem laws_szRowS_big (v : Value) (l : List Rw) (left : Int) (w : World) (h : Sl kRw w v l) (h0 : 0 ≤ left) (h1 : left ≤ 1048576) (hl : left < l.length) : Calls Try.prog 47 #[v, .int .i64 left] w (RetV w (.int .i64 (-1))) := by
 obtain ⟨A, c_, rfl, HC, hr⟩ := h
 have hm := Kd.C_max hr
 have HR := Aside0.mk hr
 clear hr
 have ew : wrap64 (left - (l.length : Int)) = left - (l.length : Int) := by unfold wrap64; omega
 have hneg : left - (l.length : Int) < 0 := by omega
 have HB := Aside0.mk (Below.refl w.heap.size w)
 go_enter Try.func47, Try.ntmps47
 go_wp2
 go_ret
 exact RetV.mk rfl HB.out
set_option maxRecDepth 100000 in
set_option maxHeartbeats 400000 in
theorem laws_szRowS_ok (v : Value) (l : List Rw) (left : Int) (w : World) (h : Sl kRw w v l) (h0 : 0 ≤ left) (h1 : left ≤ 1048576) (hl : ¬ left < l.length) : Calls Try.prog 47 #[v, .int .i64 left] w (RetV w (.int .i64 (left - (l.length : Int)))) := by
 obtain ⟨A, c_, rfl, HC, hr⟩ := h
 have hm := Kd.C_max hr
 have HR := Aside0.mk hr
 clear hr
 have ew : wrap64 (left - (l.length : Int)) = left - (l.length : Int) := by unfold wrap64; omega
 have hneg : ¬ left - (l.length : Int) < 0 := by omega
 have HB := Aside0.mk (Below.refl w.heap.size w)
 go_enter Try.func47, Try.ntmps47
 go_wp2
 go_ret
 exact RetV.mk (by rw [← ew]; rfl) HB.out
end Go.Proofs.Ytkdendlgaaimbaa.X
