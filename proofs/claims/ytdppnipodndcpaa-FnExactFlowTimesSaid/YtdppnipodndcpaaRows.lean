/-
  No cell of these rows narrows 'for every input' (looked for: loops, veiled, ifaces, maps, wideKeys, modest, calm, conditions, laid).
  DERIVED. THE GIVEN ROWS OF THIS SEAT. 10 by the template 'for every input the law returns true; each argument reads behind the call as it read before'; 0 by the template 'total and deterministic' (their statements: YtdppnipodndcpaaTotals.lean).
  GIVEN WITH THE SEED: the statements are not yours to turn. If you find one false, say at which input.
  Laid BY PROGRAM, IN A SANDBOX (cutbox-rows.mjs): the forced cells as the released guide's own fill.sh prints them over the translation ab3d849c96d3a94c… (all of the seat's roots in one cut). By AI agents, Wed Nov 11 2026. No macro, syntax, notation, axiom, sorry.
-/
import Derived.Test.YtdppnipodndcpaaChecked
import GoSem.Claim
import GoSem.ClaimJoined
import GoSem.ClaimMapViews
import Derived.JoinedTies
import Derived.KernelRfl
namespace Go.Proofs.Ytdppnipodndcpaa
/- THE CELL 'sum', in the pinned program and in every row, IS THE sha256 OF THE DUMP (.gsa) THAT YtdppnipodndcpaaProg.lean LOADS. Nothing in Lean hashes anything: it is a label: what it is worth is what the hold of that sum in a sandbox is worth. -/
noncomputable def Try.pinned : Pinned := { name := "ytdppnipodndcpaa", sum := "ab3d849c96d3a94c37fe32abce37e39f21524b6926a22d40f3a34ee29c8cab19", checked := Try.checked }
namespace Rows
def none {H : Type} : Left H := { results := [], args := [] }

/-- 'laws.FnFlowTimes': WHATEVER THE INPUT: true; the input reads as it did. -/
def fnFlowTimesSpec : ChangeSpec := { name := "fnFlowTimes", fn := fun _ => fun
  | [d] => { results := [.lit (.bool true)], args := [d] }
  | _ => none }
def fnFlowTimesRow : OpenClaim := { program := "ytdppnipodndcpaa", sum := "ab3d849c96d3a94c37fe32abce37e39f21524b6926a22d40f3a34ee29c8cab19", func := "loop.example/tideline/laws.FnFlowTimes", spec := "fnFlowTimes", plainKeys := false, apart := false }
def FnFlowTimesSaid : Prop := fnFlowTimesRow.holds Try.pinned (OpenSpec.ofChange fnFlowTimesSpec)

/-- ITS FALSE NEIGHBOUR: 'it returns false'. Refute it at one input. -/
def fnFlowTimesWrong : ChangeSpec := { name := "fnFlowTimes", fn := fun _ => fun
  | [d] => { results := [.lit (.bool false)], args := [d] }
  | _ => none }
def FnFlowTimesWrongFalsely : Prop := fnFlowTimesRow.holds Try.pinned (OpenSpec.ofChange fnFlowTimesWrong)

/-- 'laws.FnExactFlowTimes': WHATEVER THE INPUT: true; the input reads as it did. -/
def fnExactFlowTimesSpec : ChangeSpec := { name := "fnExactFlowTimes", fn := fun _ => fun
  | [d1, d2] => { results := [.lit (.bool true)], args := [d1, d2] }
  | _ => none }
def fnExactFlowTimesRow : OpenClaim := { program := "ytdppnipodndcpaa", sum := "ab3d849c96d3a94c37fe32abce37e39f21524b6926a22d40f3a34ee29c8cab19", func := "loop.example/tideline/laws.FnExactFlowTimes", spec := "fnExactFlowTimes", plainKeys := false, apart := false }
def FnExactFlowTimesSaid : Prop := fnExactFlowTimesRow.holds Try.pinned (OpenSpec.ofChange fnExactFlowTimesSpec)

/-- ITS FALSE NEIGHBOUR: 'it returns false'. Refute it at one input. -/
def fnExactFlowTimesWrong : ChangeSpec := { name := "fnExactFlowTimes", fn := fun _ => fun
  | [d1, d2] => { results := [.lit (.bool false)], args := [d1, d2] }
  | _ => none }
def FnExactFlowTimesWrongFalsely : Prop := fnExactFlowTimesRow.holds Try.pinned (OpenSpec.ofChange fnExactFlowTimesWrong)

/-- 'laws.FnExactSpineOk': WHATEVER THE INPUT: true; the input reads as it did. -/
def fnExactSpineOkSpec : ChangeSpec := { name := "fnExactSpineOk", fn := fun _ => fun
  | [d] => { results := [.lit (.bool true)], args := [d] }
  | _ => none }
def fnExactSpineOkRow : OpenClaim := { program := "ytdppnipodndcpaa", sum := "ab3d849c96d3a94c37fe32abce37e39f21524b6926a22d40f3a34ee29c8cab19", func := "loop.example/tideline/laws.FnExactSpineOk", spec := "fnExactSpineOk", plainKeys := false, apart := false }
def FnExactSpineOkSaid : Prop := fnExactSpineOkRow.holds Try.pinned (OpenSpec.ofChange fnExactSpineOkSpec)

/-- ITS FALSE NEIGHBOUR: 'it returns false'. Refute it at one input. -/
def fnExactSpineOkWrong : ChangeSpec := { name := "fnExactSpineOk", fn := fun _ => fun
  | [d] => { results := [.lit (.bool false)], args := [d] }
  | _ => none }
def FnExactSpineOkWrongFalsely : Prop := fnExactSpineOkRow.holds Try.pinned (OpenSpec.ofChange fnExactSpineOkWrong)

/-- 'laws.FnSpineOk': WHATEVER THE INPUT: true; the input reads as it did. -/
def fnSpineOkSpec : ChangeSpec := { name := "fnSpineOk", fn := fun _ => fun
  | [d1, d2] => { results := [.lit (.bool true)], args := [d1, d2] }
  | _ => none }
def fnSpineOkRow : OpenClaim := { program := "ytdppnipodndcpaa", sum := "ab3d849c96d3a94c37fe32abce37e39f21524b6926a22d40f3a34ee29c8cab19", func := "loop.example/tideline/laws.FnSpineOk", spec := "fnSpineOk", inPlace := ["internal/reflectlite.ValueOf", "internal/reflectlite.Swapper", "(internal/reflectlite.Value).Len"], unfollowed := true, recurses := true, plainKeys := false, apart := false }
def FnSpineOkSaid : Prop := fnSpineOkRow.holds Try.pinned (OpenSpec.ofChange fnSpineOkSpec)

/-- ITS FALSE NEIGHBOUR: 'it returns false'. Refute it at one input. -/
def fnSpineOkWrong : ChangeSpec := { name := "fnSpineOk", fn := fun _ => fun
  | [d1, d2] => { results := [.lit (.bool false)], args := [d1, d2] }
  | _ => none }
def FnSpineOkWrongFalsely : Prop := fnSpineOkRow.holds Try.pinned (OpenSpec.ofChange fnSpineOkWrong)

/-- 'laws.FnExactSpineSince': WHATEVER THE INPUT: true; the input reads as it did. -/
def fnExactSpineSinceSpec : ChangeSpec := { name := "fnExactSpineSince", fn := fun _ => fun
  | [d1, d2] => { results := [.lit (.bool true)], args := [d1, d2] }
  | _ => none }
def fnExactSpineSinceRow : OpenClaim := { program := "ytdppnipodndcpaa", sum := "ab3d849c96d3a94c37fe32abce37e39f21524b6926a22d40f3a34ee29c8cab19", func := "loop.example/tideline/laws.FnExactSpineSince", spec := "fnExactSpineSince", plainKeys := false, apart := false }
def FnExactSpineSinceSaid : Prop := fnExactSpineSinceRow.holds Try.pinned (OpenSpec.ofChange fnExactSpineSinceSpec)

/-- ITS FALSE NEIGHBOUR: 'it returns false'. Refute it at one input. -/
def fnExactSpineSinceWrong : ChangeSpec := { name := "fnExactSpineSince", fn := fun _ => fun
  | [d1, d2] => { results := [.lit (.bool false)], args := [d1, d2] }
  | _ => none }
def FnExactSpineSinceWrongFalsely : Prop := fnExactSpineSinceRow.holds Try.pinned (OpenSpec.ofChange fnExactSpineSinceWrong)

/-- 'laws.FnSpineSinceTwice': WHATEVER THE INPUT: true; the input reads as it did. -/
def fnSpineSinceTwiceSpec : ChangeSpec := { name := "fnSpineSinceTwice", fn := fun _ => fun
  | [d] => { results := [.lit (.bool true)], args := [d] }
  | _ => none }
def fnSpineSinceTwiceRow : OpenClaim := { program := "ytdppnipodndcpaa", sum := "ab3d849c96d3a94c37fe32abce37e39f21524b6926a22d40f3a34ee29c8cab19", func := "loop.example/tideline/laws.FnSpineSinceTwice", spec := "fnSpineSinceTwice", plainKeys := false, apart := false }
def FnSpineSinceTwiceSaid : Prop := fnSpineSinceTwiceRow.holds Try.pinned (OpenSpec.ofChange fnSpineSinceTwiceSpec)

/-- ITS FALSE NEIGHBOUR: 'it returns false'. Refute it at one input. -/
def fnSpineSinceTwiceWrong : ChangeSpec := { name := "fnSpineSinceTwice", fn := fun _ => fun
  | [d] => { results := [.lit (.bool false)], args := [d] }
  | _ => none }
def FnSpineSinceTwiceWrongFalsely : Prop := fnSpineSinceTwiceRow.holds Try.pinned (OpenSpec.ofChange fnSpineSinceTwiceWrong)

/-- 'laws.FnExactSetEach': WHATEVER THE INPUT: true; the input reads as it did. -/
def fnExactSetEachSpec : ChangeSpec := { name := "fnExactSetEach", fn := fun _ => fun
  | [d1, d2] => { results := [.lit (.bool true)], args := [d1, d2] }
  | _ => none }
def fnExactSetEachRow : OpenClaim := { program := "ytdppnipodndcpaa", sum := "ab3d849c96d3a94c37fe32abce37e39f21524b6926a22d40f3a34ee29c8cab19", func := "loop.example/tideline/laws.FnExactSetEach", spec := "fnExactSetEach", inPlace := ["internal/reflectlite.ValueOf", "internal/reflectlite.Swapper", "(internal/reflectlite.Value).Len"], unfollowed := true, recurses := true, plainKeys := false, apart := false }
def FnExactSetEachSaid : Prop := fnExactSetEachRow.holds Try.pinned (OpenSpec.ofChange fnExactSetEachSpec)

/-- ITS FALSE NEIGHBOUR: 'it returns false'. Refute it at one input. -/
def fnExactSetEachWrong : ChangeSpec := { name := "fnExactSetEach", fn := fun _ => fun
  | [d1, d2] => { results := [.lit (.bool false)], args := [d1, d2] }
  | _ => none }
def FnExactSetEachWrongFalsely : Prop := fnExactSetEachRow.holds Try.pinned (OpenSpec.ofChange fnExactSetEachWrong)

/-- 'laws.FnBatchStill': WHATEVER THE INPUT: true; the input reads as it did. -/
def fnBatchStillSpec : ChangeSpec := { name := "fnBatchStill", fn := fun _ => fun
  | [d] => { results := [.lit (.bool true)], args := [d] }
  | _ => none }
def fnBatchStillRow : OpenClaim := { program := "ytdppnipodndcpaa", sum := "ab3d849c96d3a94c37fe32abce37e39f21524b6926a22d40f3a34ee29c8cab19", func := "loop.example/tideline/laws.FnBatchStill", spec := "fnBatchStill", inPlace := ["internal/reflectlite.ValueOf", "internal/reflectlite.Swapper", "(internal/reflectlite.Value).Len"], unfollowed := true, recurses := true, plainKeys := false, apart := false }
def FnBatchStillSaid : Prop := fnBatchStillRow.holds Try.pinned (OpenSpec.ofChange fnBatchStillSpec)

/-- ITS FALSE NEIGHBOUR: 'it returns false'. Refute it at one input. -/
def fnBatchStillWrong : ChangeSpec := { name := "fnBatchStill", fn := fun _ => fun
  | [d] => { results := [.lit (.bool false)], args := [d] }
  | _ => none }
def FnBatchStillWrongFalsely : Prop := fnBatchStillRow.holds Try.pinned (OpenSpec.ofChange fnBatchStillWrong)

/-- 'laws.FnSetJoin': WHATEVER THE INPUT: true; the input reads as it did. -/
def fnSetJoinSpec : ChangeSpec := { name := "fnSetJoin", fn := fun _ => fun
  | [d1, d2] => { results := [.lit (.bool true)], args := [d1, d2] }
  | _ => none }
def fnSetJoinRow : OpenClaim := { program := "ytdppnipodndcpaa", sum := "ab3d849c96d3a94c37fe32abce37e39f21524b6926a22d40f3a34ee29c8cab19", func := "loop.example/tideline/laws.FnSetJoin", spec := "fnSetJoin", inPlace := ["internal/reflectlite.ValueOf", "internal/reflectlite.Swapper", "(internal/reflectlite.Value).Len"], unfollowed := true, recurses := true, plainKeys := false, apart := false }
def FnSetJoinSaid : Prop := fnSetJoinRow.holds Try.pinned (OpenSpec.ofChange fnSetJoinSpec)

/-- ITS FALSE NEIGHBOUR: 'it returns false'. Refute it at one input. -/
def fnSetJoinWrong : ChangeSpec := { name := "fnSetJoin", fn := fun _ => fun
  | [d1, d2] => { results := [.lit (.bool false)], args := [d1, d2] }
  | _ => none }
def FnSetJoinWrongFalsely : Prop := fnSetJoinRow.holds Try.pinned (OpenSpec.ofChange fnSetJoinWrong)

/-- 'laws.FnSetJoinKeys': WHATEVER THE INPUT: true; the input reads as it did. -/
def fnSetJoinKeysSpec : ChangeSpec := { name := "fnSetJoinKeys", fn := fun _ => fun
  | [d] => { results := [.lit (.bool true)], args := [d] }
  | _ => none }
def fnSetJoinKeysRow : OpenClaim := { program := "ytdppnipodndcpaa", sum := "ab3d849c96d3a94c37fe32abce37e39f21524b6926a22d40f3a34ee29c8cab19", func := "loop.example/tideline/laws.FnSetJoinKeys", spec := "fnSetJoinKeys", inPlace := ["internal/reflectlite.ValueOf", "internal/reflectlite.Swapper", "(internal/reflectlite.Value).Len"], unfollowed := true, recurses := true, plainKeys := false, apart := false }
def FnSetJoinKeysSaid : Prop := fnSetJoinKeysRow.holds Try.pinned (OpenSpec.ofChange fnSetJoinKeysSpec)

/-- ITS FALSE NEIGHBOUR: 'it returns false'. Refute it at one input. -/
def fnSetJoinKeysWrong : ChangeSpec := { name := "fnSetJoinKeys", fn := fun _ => fun
  | [d] => { results := [.lit (.bool false)], args := [d] }
  | _ => none }
def FnSetJoinKeysWrongFalsely : Prop := fnSetJoinKeysRow.holds Try.pinned (OpenSpec.ofChange fnSetJoinKeysWrong)

/- THE SECOND FORM. 'bulk': how many values and letters a reading holds, each counted each time it is reached (what is shared counts as often as it is met; a slice's spare places count too). A statement '..UptoSaid' is the law's where the arguments, and the package variables that the reading takes, are together of bulk at most 1048576: NARROWER than '..Said'. Prove '..Said' where nothing that the law and all that it calls make is longer than what came in: it says more and counts as full. Else prove '..UptoSaid'. A law counts once. -/
mutual
def uptoBulk {H : Type} : DataW H → Nat
  | .lit (.string bytes) => bytes.length + 1
  | .lit _ => 1
  | .nil => 1
  | .ptr d => uptoBulk d + 1
  | .slice elems spare => uptoBulkAll elems + uptoBulkAll spare + 1
  | .agg parts => uptoBulkAll parts + 1
  | .iface _ d => uptoBulk d + 1
  | .map entries => uptoBulkEntries entries + 1
  | .held _ => 1
def uptoBulkAll {H : Type} : List (DataW H) → Nat
  | [] => 0
  | d :: r => uptoBulk d + uptoBulkAll r
def uptoBulkEntries {H : Type} : List (Lit × DataW H) → Nat
  | [] => 0
  | x :: r => uptoBulkEntry x + uptoBulkEntries r
def uptoBulkEntry {H : Type} : Lit × DataW H → Nat
  | (.string bytes, d) => bytes.length + uptoBulk d + 1
  | (_, d) => uptoBulk d + 1
 end
def uptoSmall : (H : Type) → List (DataW H) → Bool := fun _ ds => decide (uptoBulkAll ds ≤ 1048576)
def OpenSpec.upto (s : _root_.Go.ChangeSpec) : _root_.Go.OpenSpec := { _root_.Go.OpenSpec.ofChange s with cond := some uptoSmall }

/-- 'laws.FnFlowTimes', WHERE WHAT IT READS IS OF BULK AT MOST 1048576: true; the input reads as it did. -/
def fnFlowTimesUptoRow : OpenClaim := { program := "ytdppnipodndcpaa", sum := "ab3d849c96d3a94c37fe32abce37e39f21524b6926a22d40f3a34ee29c8cab19", func := "loop.example/tideline/laws.FnFlowTimes", spec := "fnFlowTimes", plainKeys := false, apart := false, narrowed := true }
def FnFlowTimesUptoSaid : Prop := fnFlowTimesUptoRow.holds Try.pinned (OpenSpec.upto fnFlowTimesSpec)

/-- 'laws.FnExactFlowTimes', WHERE WHAT IT READS IS OF BULK AT MOST 1048576: true; the input reads as it did. -/
def fnExactFlowTimesUptoRow : OpenClaim := { program := "ytdppnipodndcpaa", sum := "ab3d849c96d3a94c37fe32abce37e39f21524b6926a22d40f3a34ee29c8cab19", func := "loop.example/tideline/laws.FnExactFlowTimes", spec := "fnExactFlowTimes", plainKeys := false, apart := false, narrowed := true }
def FnExactFlowTimesUptoSaid : Prop := fnExactFlowTimesUptoRow.holds Try.pinned (OpenSpec.upto fnExactFlowTimesSpec)

/-- 'laws.FnExactSpineOk', WHERE WHAT IT READS IS OF BULK AT MOST 1048576: true; the input reads as it did. -/
def fnExactSpineOkUptoRow : OpenClaim := { program := "ytdppnipodndcpaa", sum := "ab3d849c96d3a94c37fe32abce37e39f21524b6926a22d40f3a34ee29c8cab19", func := "loop.example/tideline/laws.FnExactSpineOk", spec := "fnExactSpineOk", plainKeys := false, apart := false, narrowed := true }
def FnExactSpineOkUptoSaid : Prop := fnExactSpineOkUptoRow.holds Try.pinned (OpenSpec.upto fnExactSpineOkSpec)

/-- 'laws.FnSpineOk', WHERE WHAT IT READS IS OF BULK AT MOST 1048576: true; the input reads as it did. -/
def fnSpineOkUptoRow : OpenClaim := { program := "ytdppnipodndcpaa", sum := "ab3d849c96d3a94c37fe32abce37e39f21524b6926a22d40f3a34ee29c8cab19", func := "loop.example/tideline/laws.FnSpineOk", spec := "fnSpineOk", inPlace := ["internal/reflectlite.ValueOf", "internal/reflectlite.Swapper", "(internal/reflectlite.Value).Len"], unfollowed := true, recurses := true, plainKeys := false, apart := false, narrowed := true }
def FnSpineOkUptoSaid : Prop := fnSpineOkUptoRow.holds Try.pinned (OpenSpec.upto fnSpineOkSpec)

/-- 'laws.FnExactSpineSince', WHERE WHAT IT READS IS OF BULK AT MOST 1048576: true; the input reads as it did. -/
def fnExactSpineSinceUptoRow : OpenClaim := { program := "ytdppnipodndcpaa", sum := "ab3d849c96d3a94c37fe32abce37e39f21524b6926a22d40f3a34ee29c8cab19", func := "loop.example/tideline/laws.FnExactSpineSince", spec := "fnExactSpineSince", plainKeys := false, apart := false, narrowed := true }
def FnExactSpineSinceUptoSaid : Prop := fnExactSpineSinceUptoRow.holds Try.pinned (OpenSpec.upto fnExactSpineSinceSpec)

/-- 'laws.FnSpineSinceTwice', WHERE WHAT IT READS IS OF BULK AT MOST 1048576: true; the input reads as it did. -/
def fnSpineSinceTwiceUptoRow : OpenClaim := { program := "ytdppnipodndcpaa", sum := "ab3d849c96d3a94c37fe32abce37e39f21524b6926a22d40f3a34ee29c8cab19", func := "loop.example/tideline/laws.FnSpineSinceTwice", spec := "fnSpineSinceTwice", plainKeys := false, apart := false, narrowed := true }
def FnSpineSinceTwiceUptoSaid : Prop := fnSpineSinceTwiceUptoRow.holds Try.pinned (OpenSpec.upto fnSpineSinceTwiceSpec)

/-- 'laws.FnExactSetEach', WHERE WHAT IT READS IS OF BULK AT MOST 1048576: true; the input reads as it did. -/
def fnExactSetEachUptoRow : OpenClaim := { program := "ytdppnipodndcpaa", sum := "ab3d849c96d3a94c37fe32abce37e39f21524b6926a22d40f3a34ee29c8cab19", func := "loop.example/tideline/laws.FnExactSetEach", spec := "fnExactSetEach", inPlace := ["internal/reflectlite.ValueOf", "internal/reflectlite.Swapper", "(internal/reflectlite.Value).Len"], unfollowed := true, recurses := true, plainKeys := false, apart := false, narrowed := true }
def FnExactSetEachUptoSaid : Prop := fnExactSetEachUptoRow.holds Try.pinned (OpenSpec.upto fnExactSetEachSpec)

/-- 'laws.FnBatchStill', WHERE WHAT IT READS IS OF BULK AT MOST 1048576: true; the input reads as it did. -/
def fnBatchStillUptoRow : OpenClaim := { program := "ytdppnipodndcpaa", sum := "ab3d849c96d3a94c37fe32abce37e39f21524b6926a22d40f3a34ee29c8cab19", func := "loop.example/tideline/laws.FnBatchStill", spec := "fnBatchStill", inPlace := ["internal/reflectlite.ValueOf", "internal/reflectlite.Swapper", "(internal/reflectlite.Value).Len"], unfollowed := true, recurses := true, plainKeys := false, apart := false, narrowed := true }
def FnBatchStillUptoSaid : Prop := fnBatchStillUptoRow.holds Try.pinned (OpenSpec.upto fnBatchStillSpec)

/-- 'laws.FnSetJoin', WHERE WHAT IT READS IS OF BULK AT MOST 1048576: true; the input reads as it did. -/
def fnSetJoinUptoRow : OpenClaim := { program := "ytdppnipodndcpaa", sum := "ab3d849c96d3a94c37fe32abce37e39f21524b6926a22d40f3a34ee29c8cab19", func := "loop.example/tideline/laws.FnSetJoin", spec := "fnSetJoin", inPlace := ["internal/reflectlite.ValueOf", "internal/reflectlite.Swapper", "(internal/reflectlite.Value).Len"], unfollowed := true, recurses := true, plainKeys := false, apart := false, narrowed := true }
def FnSetJoinUptoSaid : Prop := fnSetJoinUptoRow.holds Try.pinned (OpenSpec.upto fnSetJoinSpec)

/-- 'laws.FnSetJoinKeys', WHERE WHAT IT READS IS OF BULK AT MOST 1048576: true; the input reads as it did. -/
def fnSetJoinKeysUptoRow : OpenClaim := { program := "ytdppnipodndcpaa", sum := "ab3d849c96d3a94c37fe32abce37e39f21524b6926a22d40f3a34ee29c8cab19", func := "loop.example/tideline/laws.FnSetJoinKeys", spec := "fnSetJoinKeys", inPlace := ["internal/reflectlite.ValueOf", "internal/reflectlite.Swapper", "(internal/reflectlite.Value).Len"], unfollowed := true, recurses := true, plainKeys := false, apart := false, narrowed := true }
def FnSetJoinKeysUptoSaid : Prop := fnSetJoinKeysUptoRow.holds Try.pinned (OpenSpec.upto fnSetJoinKeysSpec)

end Rows
end Go.Proofs.Ytdppnipodndcpaa
