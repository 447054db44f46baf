/- Conditions: none. -/
import Derived.Test.YtkdendlgaaimbaaYNLw
import Derived.Test.YtkdendlgaaimbaaYNSpI
import Derived.Test.YtkdendlgaaimbaaYNSpJ
import Derived.Test.YtkdendlgaaimbaaYNSb
import Derived.Test.YtkdendlgaaimbaaYNPlH
import Derived.RegionTactic
import Derived.BigRegion
namespace Go.Proofs.Ytkdendlgaaimbaa.X
open Go.RowKit Go.Proofs.YtkdendlgaaimbaaW.PrintWords Go.Proofs.YtkdendlgaaimbaaW.PrintLast
set_option linter.unusedVariables false
set_option linter.unusedSimpArgs false
set_option maxRecDepth 100000 in
set_option maxHeartbeats 2000000 in
theorem impl_FrontCovers (v : Value) (l : List Tm) (t : Tm) (w : World) (h : Sl kTm w v l) : Calls Try.prog 30 #[v, .agg #[.int .i64 t.f0, .int .i64 t.f1]] w (RetV w (.bool (frontOk l && tOk t && beyond l t))) := by
 have HS := Aside0.mk h
 have HB0 := Aside0.mk (below_alloc (Below.refl w.heap.size w) (.cells #[.int .i64 t.f0, .int .i64 t.f1] 43))
 have HC := Aside0.mk (blk_new w (.cells #[.int .i64 t.f0, .int .i64 t.f1] 43))
 have c0 := blk_cell HC.out 0
 have c1 := blk_cell HC.out 1
 cases h1 : frontOk l <;> cases h2 : tOk t
 all_goals
  have HH := Aside0.mk h2
  go_enter Try.func30, Try.ntmps30
  go_wp2_with (first
   | (go_at_call 76; ((with_reducible refine (impl_FrontOk v l _ (HS.out.below HB0.out)).mono ?_); rintro e wa ⟨rfl, hb⟩; rw [h1]; have HB1 := Aside0.mk (bthen HB0.out hb); have d0 := pw_cell_below hb c0; have d1 := pw_cell_below hb c1; clear hb))
   | (go_at_call 91; ((with_reducible refine (impl_TimeOk t.f0 t.f1 _).mono ?_); rintro e wb ⟨rfl, hb⟩; rw [show tOk (⟨t.f0, t.f1⟩ : Tm) = _ from HH.out]; have HB2 := Aside0.mk (bthen HB1.out hb); have e0 := pw_cell_below hb d0; have e1 := pw_cell_below hb d1; clear hb))
   | (go_at_call 72; ((with_reducible refine (impl_beyond v l t.f0 t.f1 _ (HS.out.below HB2.out)).mono ?_); rintro e wc ⟨rfl, hb⟩; have HB3 := Aside0.mk (bthen HB2.out hb); clear hb)))
  go_ret
  first
   | exact RetV.mk rfl HB3.out
   | exact RetV.mk rfl HB2.out
   | exact RetV.mk rfl HB1.out
theorem lwItemsT (v v2 : Value) (l : List It) (w : World) (h : Sl kIt w v l) (h2 : Sl kIt w v2 l) : Calls Try.prog 27 #[v, v2] w (RetV w (.bool true)) := by
 have := laws_lwItems v v2 l l w h h2
 rwa [decide_eq_true rfl] at this
theorem spOkS (u v : Value) (ls : List (List Rw)) (f : List Tm) (w : World) {b : Bool} (h : SpS w u v ls f) (hok : spineOk ls f = b) : Calls Try.prog 28 #[.agg #[u, v]] w (RetV w (.bool b)) := by
 have := spec_SpineOk u v ls f w h.1 h.2
 rwa [hok] at this
theorem SpS.form {w : World} {u v : Value} {ls : List (List Rw)} {f : List Tm} (h : SpS w u v ls f) : ∃ A c A' c', u = .slice A ls.length c ∧ v = .slice A' f.length c' := by
 obtain ⟨⟨A, c, e, _, _⟩, A', c', e', _, _⟩ := h
 exact ⟨A, c, A', c', e, e'⟩
theorem SpS.tm {w : World} {u v : Value} {ls : List (List Rw)} {f : List Tm} (h : SpS w u v ls f) : Sl kTm w v f := h.2
end Go.Proofs.Ytkdendlgaaimbaa.X
