/-
  No cell of these rows narrows 'for every input' (looked for: loops, veiled, ifaces, maps, wideKeys, modest, calm, conditions, laid).
  DERIVED. THE GIVEN ROWS OF THIS SEAT. 12 by the template 'for every input the law returns true; each argument reads behind the call as it read before'; 0 by the template 'total and deterministic' (their statements: YtlmglffdmoklcaaTotals.lean).
  GIVEN WITH THE SEED: the statements are not yours to turn. If you find one false, say at which input.
  Laid BY PROGRAM, IN A SANDBOX (cutbox-rows.mjs): the forced cells as the released guide's own fill.sh prints them over the translation 66dc6f2721e7a78f… (all of the seat's roots in one cut). By AI agents, Wed Nov 11 2026. No macro, syntax, notation, axiom, sorry.
-/
import Derived.Test.YtlmglffdmoklcaaChecked
import GoSem.Claim
import GoSem.ClaimJoined
import GoSem.ClaimMapViews
import Derived.JoinedTies
import Derived.KernelRfl
namespace Go.Proofs.Ytlmglffdmoklcaa
/- THE CELL 'sum', in the pinned program and in every row, IS THE sha256 OF THE DUMP (.gsa) THAT YtlmglffdmoklcaaProg.lean LOADS. Nothing in Lean hashes anything: it is a label: what it is worth is what the hold of that sum in a sandbox is worth. -/
noncomputable def Try.pinned : Pinned := { name := "ytlmglffdmoklcaa", sum := "66dc6f2721e7a78ffd78d73a6f3cbd0870a80641cb32fe0361c243eb8d91c524", checked := Try.checked }
namespace Rows
def none {H : Type} : Left H := { results := [], args := [] }

/-- 'laws.FnBatchLess': WHATEVER THE INPUT: true; the input reads as it did. -/
def fnBatchLessSpec : ChangeSpec := { name := "fnBatchLess", fn := fun _ => fun
  | [d] => { results := [.lit (.bool true)], args := [d] }
  | _ => none }
def fnBatchLessRow : OpenClaim := { program := "ytlmglffdmoklcaa", sum := "66dc6f2721e7a78ffd78d73a6f3cbd0870a80641cb32fe0361c243eb8d91c524", func := "loop.example/tideline/laws.FnBatchLess", spec := "fnBatchLess", inPlace := ["internal/reflectlite.ValueOf", "internal/reflectlite.Swapper", "(internal/reflectlite.Value).Len"], unfollowed := true, recurses := true, plainKeys := false, apart := false }
def FnBatchLessSaid : Prop := fnBatchLessRow.holds Try.pinned (OpenSpec.ofChange fnBatchLessSpec)

/-- ITS FALSE NEIGHBOUR: 'it returns false'. Refute it at one input. -/
def fnBatchLessWrong : ChangeSpec := { name := "fnBatchLess", fn := fun _ => fun
  | [d] => { results := [.lit (.bool false)], args := [d] }
  | _ => none }
def FnBatchLessWrongFalsely : Prop := fnBatchLessRow.holds Try.pinned (OpenSpec.ofChange fnBatchLessWrong)

/-- 'laws.FnFlowJoin': WHATEVER THE INPUT: true; the input reads as it did. -/
def fnFlowJoinSpec : ChangeSpec := { name := "fnFlowJoin", fn := fun _ => fun
  | [d] => { results := [.lit (.bool true)], args := [d] }
  | _ => none }
def fnFlowJoinRow : OpenClaim := { program := "ytlmglffdmoklcaa", sum := "66dc6f2721e7a78ffd78d73a6f3cbd0870a80641cb32fe0361c243eb8d91c524", func := "loop.example/tideline/laws.FnFlowJoin", spec := "fnFlowJoin", inPlace := ["internal/reflectlite.ValueOf", "internal/reflectlite.Swapper", "(internal/reflectlite.Value).Len"], unfollowed := true, recurses := true, plainKeys := false, apart := false }
def FnFlowJoinSaid : Prop := fnFlowJoinRow.holds Try.pinned (OpenSpec.ofChange fnFlowJoinSpec)

/-- ITS FALSE NEIGHBOUR: 'it returns false'. Refute it at one input. -/
def fnFlowJoinWrong : ChangeSpec := { name := "fnFlowJoin", fn := fun _ => fun
  | [d] => { results := [.lit (.bool false)], args := [d] }
  | _ => none }
def FnFlowJoinWrongFalsely : Prop := fnFlowJoinRow.holds Try.pinned (OpenSpec.ofChange fnFlowJoinWrong)

/-- 'laws.FnFlowEach': WHATEVER THE INPUT: true; the input reads as it did. -/
def fnFlowEachSpec : ChangeSpec := { name := "fnFlowEach", fn := fun _ => fun
  | [d] => { results := [.lit (.bool true)], args := [d] }
  | _ => none }
def fnFlowEachRow : OpenClaim := { program := "ytlmglffdmoklcaa", sum := "66dc6f2721e7a78ffd78d73a6f3cbd0870a80641cb32fe0361c243eb8d91c524", func := "loop.example/tideline/laws.FnFlowEach", spec := "fnFlowEach", inPlace := ["internal/reflectlite.ValueOf", "internal/reflectlite.Swapper", "(internal/reflectlite.Value).Len"], unfollowed := true, recurses := true, plainKeys := false, apart := false }
def FnFlowEachSaid : Prop := fnFlowEachRow.holds Try.pinned (OpenSpec.ofChange fnFlowEachSpec)

/-- ITS FALSE NEIGHBOUR: 'it returns false'. Refute it at one input. -/
def fnFlowEachWrong : ChangeSpec := { name := "fnFlowEach", fn := fun _ => fun
  | [d] => { results := [.lit (.bool false)], args := [d] }
  | _ => none }
def FnFlowEachWrongFalsely : Prop := fnFlowEachRow.holds Try.pinned (OpenSpec.ofChange fnFlowEachWrong)

/-- 'laws.FnExactSpineAll': WHATEVER THE INPUT: true; the input reads as it did. -/
def fnExactSpineAllSpec : ChangeSpec := { name := "fnExactSpineAll", fn := fun _ => fun
  | [d] => { results := [.lit (.bool true)], args := [d] }
  | _ => none }
def fnExactSpineAllRow : OpenClaim := { program := "ytlmglffdmoklcaa", sum := "66dc6f2721e7a78ffd78d73a6f3cbd0870a80641cb32fe0361c243eb8d91c524", func := "loop.example/tideline/laws.FnExactSpineAll", spec := "fnExactSpineAll", inPlace := ["internal/reflectlite.ValueOf", "internal/reflectlite.Swapper", "(internal/reflectlite.Value).Len"], unfollowed := true, recurses := true, plainKeys := false, apart := false }
def FnExactSpineAllSaid : Prop := fnExactSpineAllRow.holds Try.pinned (OpenSpec.ofChange fnExactSpineAllSpec)

/-- ITS FALSE NEIGHBOUR: 'it returns false'. Refute it at one input. -/
def fnExactSpineAllWrong : ChangeSpec := { name := "fnExactSpineAll", fn := fun _ => fun
  | [d] => { results := [.lit (.bool false)], args := [d] }
  | _ => none }
def FnExactSpineAllWrongFalsely : Prop := fnExactSpineAllRow.holds Try.pinned (OpenSpec.ofChange fnExactSpineAllWrong)

/-- 'laws.FnFlowBatch': WHATEVER THE INPUT: true; the input reads as it did. -/
def fnFlowBatchSpec : ChangeSpec := { name := "fnFlowBatch", fn := fun _ => fun
  | [d1, d2] => { results := [.lit (.bool true)], args := [d1, d2] }
  | _ => none }
def fnFlowBatchRow : OpenClaim := { program := "ytlmglffdmoklcaa", sum := "66dc6f2721e7a78ffd78d73a6f3cbd0870a80641cb32fe0361c243eb8d91c524", func := "loop.example/tideline/laws.FnFlowBatch", spec := "fnFlowBatch", inPlace := ["internal/reflectlite.ValueOf", "internal/reflectlite.Swapper", "(internal/reflectlite.Value).Len"], unfollowed := true, recurses := true, plainKeys := false, apart := false }
def FnFlowBatchSaid : Prop := fnFlowBatchRow.holds Try.pinned (OpenSpec.ofChange fnFlowBatchSpec)

/-- ITS FALSE NEIGHBOUR: 'it returns false'. Refute it at one input. -/
def fnFlowBatchWrong : ChangeSpec := { name := "fnFlowBatch", fn := fun _ => fun
  | [d1, d2] => { results := [.lit (.bool false)], args := [d1, d2] }
  | _ => none }
def FnFlowBatchWrongFalsely : Prop := fnFlowBatchRow.holds Try.pinned (OpenSpec.ofChange fnFlowBatchWrong)

/-- 'laws.FnExactSpineAt': WHATEVER THE INPUT: true; the input reads as it did. -/
def fnExactSpineAtSpec : ChangeSpec := { name := "fnExactSpineAt", fn := fun _ => fun
  | [d1, d2] => { results := [.lit (.bool true)], args := [d1, d2] }
  | _ => none }
def fnExactSpineAtRow : OpenClaim := { program := "ytlmglffdmoklcaa", sum := "66dc6f2721e7a78ffd78d73a6f3cbd0870a80641cb32fe0361c243eb8d91c524", func := "loop.example/tideline/laws.FnExactSpineAt", spec := "fnExactSpineAt", inPlace := ["internal/reflectlite.ValueOf", "internal/reflectlite.Swapper", "(internal/reflectlite.Value).Len"], unfollowed := true, recurses := true, plainKeys := false, apart := false }
def FnExactSpineAtSaid : Prop := fnExactSpineAtRow.holds Try.pinned (OpenSpec.ofChange fnExactSpineAtSpec)

/-- ITS FALSE NEIGHBOUR: 'it returns false'. Refute it at one input. -/
def fnExactSpineAtWrong : ChangeSpec := { name := "fnExactSpineAt", fn := fun _ => fun
  | [d1, d2] => { results := [.lit (.bool false)], args := [d1, d2] }
  | _ => none }
def FnExactSpineAtWrongFalsely : Prop := fnExactSpineAtRow.holds Try.pinned (OpenSpec.ofChange fnExactSpineAtWrong)

/-- 'laws.FnFlowOnce': WHATEVER THE INPUT: true; the input reads as it did. -/
def fnFlowOnceSpec : ChangeSpec := { name := "fnFlowOnce", fn := fun _ => fun
  | [d] => { results := [.lit (.bool true)], args := [d] }
  | _ => none }
def fnFlowOnceRow : OpenClaim := { program := "ytlmglffdmoklcaa", sum := "66dc6f2721e7a78ffd78d73a6f3cbd0870a80641cb32fe0361c243eb8d91c524", func := "loop.example/tideline/laws.FnFlowOnce", spec := "fnFlowOnce", inPlace := ["internal/reflectlite.ValueOf", "internal/reflectlite.Swapper", "(internal/reflectlite.Value).Len"], unfollowed := true, recurses := true, plainKeys := false, apart := false }
def FnFlowOnceSaid : Prop := fnFlowOnceRow.holds Try.pinned (OpenSpec.ofChange fnFlowOnceSpec)

/-- ITS FALSE NEIGHBOUR: 'it returns false'. Refute it at one input. -/
def fnFlowOnceWrong : ChangeSpec := { name := "fnFlowOnce", fn := fun _ => fun
  | [d] => { results := [.lit (.bool false)], args := [d] }
  | _ => none }
def FnFlowOnceWrongFalsely : Prop := fnFlowOnceRow.holds Try.pinned (OpenSpec.ofChange fnFlowOnceWrong)

/-- 'laws.FnFlowSumTimes': WHATEVER THE INPUT: true; the input reads as it did. -/
def fnFlowSumTimesSpec : ChangeSpec := { name := "fnFlowSumTimes", fn := fun _ => fun
  | [d] => { results := [.lit (.bool true)], args := [d] }
  | _ => none }
def fnFlowSumTimesRow : OpenClaim := { program := "ytlmglffdmoklcaa", sum := "66dc6f2721e7a78ffd78d73a6f3cbd0870a80641cb32fe0361c243eb8d91c524", func := "loop.example/tideline/laws.FnFlowSumTimes", spec := "fnFlowSumTimes", inPlace := ["internal/reflectlite.ValueOf", "internal/reflectlite.Swapper", "(internal/reflectlite.Value).Len"], unfollowed := true, recurses := true, plainKeys := false, apart := false }
def FnFlowSumTimesSaid : Prop := fnFlowSumTimesRow.holds Try.pinned (OpenSpec.ofChange fnFlowSumTimesSpec)

/-- ITS FALSE NEIGHBOUR: 'it returns false'. Refute it at one input. -/
def fnFlowSumTimesWrong : ChangeSpec := { name := "fnFlowSumTimes", fn := fun _ => fun
  | [d] => { results := [.lit (.bool false)], args := [d] }
  | _ => none }
def FnFlowSumTimesWrongFalsely : Prop := fnFlowSumTimesRow.holds Try.pinned (OpenSpec.ofChange fnFlowSumTimesWrong)

/-- 'laws.FnExactFlowSum': WHATEVER THE INPUT: true; the input reads as it did. -/
def fnExactFlowSumSpec : ChangeSpec := { name := "fnExactFlowSum", fn := fun _ => fun
  | [d1, d2] => { results := [.lit (.bool true)], args := [d1, d2] }
  | _ => none }
def fnExactFlowSumRow : OpenClaim := { program := "ytlmglffdmoklcaa", sum := "66dc6f2721e7a78ffd78d73a6f3cbd0870a80641cb32fe0361c243eb8d91c524", func := "loop.example/tideline/laws.FnExactFlowSum", spec := "fnExactFlowSum", inPlace := ["internal/reflectlite.ValueOf", "internal/reflectlite.Swapper", "(internal/reflectlite.Value).Len"], unfollowed := true, recurses := true, plainKeys := false, apart := false }
def FnExactFlowSumSaid : Prop := fnExactFlowSumRow.holds Try.pinned (OpenSpec.ofChange fnExactFlowSumSpec)

/-- ITS FALSE NEIGHBOUR: 'it returns false'. Refute it at one input. -/
def fnExactFlowSumWrong : ChangeSpec := { name := "fnExactFlowSum", fn := fun _ => fun
  | [d1, d2] => { results := [.lit (.bool false)], args := [d1, d2] }
  | _ => none }
def FnExactFlowSumWrongFalsely : Prop := fnExactFlowSumRow.holds Try.pinned (OpenSpec.ofChange fnExactFlowSumWrong)

/-- 'laws.FnFlowMove': WHATEVER THE INPUT: true; the input reads as it did. -/
def fnFlowMoveSpec : ChangeSpec := { name := "fnFlowMove", fn := fun _ => fun
  | [d1, d2] => { results := [.lit (.bool true)], args := [d1, d2] }
  | _ => none }
def fnFlowMoveRow : OpenClaim := { program := "ytlmglffdmoklcaa", sum := "66dc6f2721e7a78ffd78d73a6f3cbd0870a80641cb32fe0361c243eb8d91c524", func := "loop.example/tideline/laws.FnFlowMove", spec := "fnFlowMove", inPlace := ["internal/reflectlite.ValueOf", "internal/reflectlite.Swapper", "(internal/reflectlite.Value).Len"], unfollowed := true, recurses := true, plainKeys := false, apart := false }
def FnFlowMoveSaid : Prop := fnFlowMoveRow.holds Try.pinned (OpenSpec.ofChange fnFlowMoveSpec)

/-- ITS FALSE NEIGHBOUR: 'it returns false'. Refute it at one input. -/
def fnFlowMoveWrong : ChangeSpec := { name := "fnFlowMove", fn := fun _ => fun
  | [d1, d2] => { results := [.lit (.bool false)], args := [d1, d2] }
  | _ => none }
def FnFlowMoveWrongFalsely : Prop := fnFlowMoveRow.holds Try.pinned (OpenSpec.ofChange fnFlowMoveWrong)

/-- 'laws.FnSpineNot': WHATEVER THE INPUT: true; the input reads as it did. -/
def fnSpineNotSpec : ChangeSpec := { name := "fnSpineNot", fn := fun _ => fun
  | [d] => { results := [.lit (.bool true)], args := [d] }
  | _ => none }
def fnSpineNotRow : OpenClaim := { program := "ytlmglffdmoklcaa", sum := "66dc6f2721e7a78ffd78d73a6f3cbd0870a80641cb32fe0361c243eb8d91c524", func := "loop.example/tideline/laws.FnSpineNot", spec := "fnSpineNot", inPlace := ["internal/reflectlite.ValueOf", "internal/reflectlite.Swapper", "(internal/reflectlite.Value).Len"], unfollowed := true, recurses := true, plainKeys := false, apart := false }
def FnSpineNotSaid : Prop := fnSpineNotRow.holds Try.pinned (OpenSpec.ofChange fnSpineNotSpec)

/-- ITS FALSE NEIGHBOUR: 'it returns false'. Refute it at one input. -/
def fnSpineNotWrong : ChangeSpec := { name := "fnSpineNot", fn := fun _ => fun
  | [d] => { results := [.lit (.bool false)], args := [d] }
  | _ => none }
def FnSpineNotWrongFalsely : Prop := fnSpineNotRow.holds Try.pinned (OpenSpec.ofChange fnSpineNotWrong)

/-- 'laws.FnExactSpineJoin': WHATEVER THE INPUT: true; the input reads as it did. -/
def fnExactSpineJoinSpec : ChangeSpec := { name := "fnExactSpineJoin", fn := fun _ => fun
  | [d1, d2] => { results := [.lit (.bool true)], args := [d1, d2] }
  | _ => none }
def fnExactSpineJoinRow : OpenClaim := { program := "ytlmglffdmoklcaa", sum := "66dc6f2721e7a78ffd78d73a6f3cbd0870a80641cb32fe0361c243eb8d91c524", func := "loop.example/tideline/laws.FnExactSpineJoin", spec := "fnExactSpineJoin", inPlace := ["internal/reflectlite.ValueOf", "internal/reflectlite.Swapper", "(internal/reflectlite.Value).Len"], unfollowed := true, recurses := true, plainKeys := false, apart := false }
def FnExactSpineJoinSaid : Prop := fnExactSpineJoinRow.holds Try.pinned (OpenSpec.ofChange fnExactSpineJoinSpec)

/-- ITS FALSE NEIGHBOUR: 'it returns false'. Refute it at one input. -/
def fnExactSpineJoinWrong : ChangeSpec := { name := "fnExactSpineJoin", fn := fun _ => fun
  | [d1, d2] => { results := [.lit (.bool false)], args := [d1, d2] }
  | _ => none }
def FnExactSpineJoinWrongFalsely : Prop := fnExactSpineJoinRow.holds Try.pinned (OpenSpec.ofChange fnExactSpineJoinWrong)

/- THE SECOND FORM. 'bulk': how many values and letters a reading holds, each counted each time it is reached (what is shared counts as often as it is met; a slice's spare places count too). A statement '..UptoSaid' is the law's where the arguments, and the package variables that the reading takes, are together of bulk at most 1048576: NARROWER than '..Said'. Prove '..Said' where nothing that the law and all that it calls make is longer than what came in: it says more and counts as full. Else prove '..UptoSaid'. A law counts once. -/
mutual
def uptoBulk {H : Type} : DataW H → Nat
  | .lit (.string bytes) => bytes.length + 1
  | .lit _ => 1
  | .nil => 1
  | .ptr d => uptoBulk d + 1
  | .slice elems spare => uptoBulkAll elems + uptoBulkAll spare + 1
  | .agg parts => uptoBulkAll parts + 1
  | .iface _ d => uptoBulk d + 1
  | .map entries => uptoBulkEntries entries + 1
  | .held _ => 1
def uptoBulkAll {H : Type} : List (DataW H) → Nat
  | [] => 0
  | d :: r => uptoBulk d + uptoBulkAll r
def uptoBulkEntries {H : Type} : List (Lit × DataW H) → Nat
  | [] => 0
  | x :: r => uptoBulkEntry x + uptoBulkEntries r
def uptoBulkEntry {H : Type} : Lit × DataW H → Nat
  | (.string bytes, d) => bytes.length + uptoBulk d + 1
  | (_, d) => uptoBulk d + 1
 end
def uptoSmall : (H : Type) → List (DataW H) → Bool := fun _ ds => decide (uptoBulkAll ds ≤ 1048576)
def OpenSpec.upto (s : _root_.Go.ChangeSpec) : _root_.Go.OpenSpec := { _root_.Go.OpenSpec.ofChange s with cond := some uptoSmall }

/-- 'laws.FnBatchLess', WHERE WHAT IT READS IS OF BULK AT MOST 1048576: true; the input reads as it did. -/
def fnBatchLessUptoRow : OpenClaim := { program := "ytlmglffdmoklcaa", sum := "66dc6f2721e7a78ffd78d73a6f3cbd0870a80641cb32fe0361c243eb8d91c524", func := "loop.example/tideline/laws.FnBatchLess", spec := "fnBatchLess", inPlace := ["internal/reflectlite.ValueOf", "internal/reflectlite.Swapper", "(internal/reflectlite.Value).Len"], unfollowed := true, recurses := true, plainKeys := false, apart := false, narrowed := true }
def FnBatchLessUptoSaid : Prop := fnBatchLessUptoRow.holds Try.pinned (OpenSpec.upto fnBatchLessSpec)

/-- 'laws.FnFlowJoin', WHERE WHAT IT READS IS OF BULK AT MOST 1048576: true; the input reads as it did. -/
def fnFlowJoinUptoRow : OpenClaim := { program := "ytlmglffdmoklcaa", sum := "66dc6f2721e7a78ffd78d73a6f3cbd0870a80641cb32fe0361c243eb8d91c524", func := "loop.example/tideline/laws.FnFlowJoin", spec := "fnFlowJoin", inPlace := ["internal/reflectlite.ValueOf", "internal/reflectlite.Swapper", "(internal/reflectlite.Value).Len"], unfollowed := true, recurses := true, plainKeys := false, apart := false, narrowed := true }
def FnFlowJoinUptoSaid : Prop := fnFlowJoinUptoRow.holds Try.pinned (OpenSpec.upto fnFlowJoinSpec)

/-- 'laws.FnFlowEach', WHERE WHAT IT READS IS OF BULK AT MOST 1048576: true; the input reads as it did. -/
def fnFlowEachUptoRow : OpenClaim := { program := "ytlmglffdmoklcaa", sum := "66dc6f2721e7a78ffd78d73a6f3cbd0870a80641cb32fe0361c243eb8d91c524", func := "loop.example/tideline/laws.FnFlowEach", spec := "fnFlowEach", inPlace := ["internal/reflectlite.ValueOf", "internal/reflectlite.Swapper", "(internal/reflectlite.Value).Len"], unfollowed := true, recurses := true, plainKeys := false, apart := false, narrowed := true }
def FnFlowEachUptoSaid : Prop := fnFlowEachUptoRow.holds Try.pinned (OpenSpec.upto fnFlowEachSpec)

/-- 'laws.FnExactSpineAll', WHERE WHAT IT READS IS OF BULK AT MOST 1048576: true; the input reads as it did. -/
def fnExactSpineAllUptoRow : OpenClaim := { program := "ytlmglffdmoklcaa", sum := "66dc6f2721e7a78ffd78d73a6f3cbd0870a80641cb32fe0361c243eb8d91c524", func := "loop.example/tideline/laws.FnExactSpineAll", spec := "fnExactSpineAll", inPlace := ["internal/reflectlite.ValueOf", "internal/reflectlite.Swapper", "(internal/reflectlite.Value).Len"], unfollowed := true, recurses := true, plainKeys := false, apart := false, narrowed := true }
def FnExactSpineAllUptoSaid : Prop := fnExactSpineAllUptoRow.holds Try.pinned (OpenSpec.upto fnExactSpineAllSpec)

/-- 'laws.FnFlowBatch', WHERE WHAT IT READS IS OF BULK AT MOST 1048576: true; the input reads as it did. -/
def fnFlowBatchUptoRow : OpenClaim := { program := "ytlmglffdmoklcaa", sum := "66dc6f2721e7a78ffd78d73a6f3cbd0870a80641cb32fe0361c243eb8d91c524", func := "loop.example/tideline/laws.FnFlowBatch", spec := "fnFlowBatch", inPlace := ["internal/reflectlite.ValueOf", "internal/reflectlite.Swapper", "(internal/reflectlite.Value).Len"], unfollowed := true, recurses := true, plainKeys := false, apart := false, narrowed := true }
def FnFlowBatchUptoSaid : Prop := fnFlowBatchUptoRow.holds Try.pinned (OpenSpec.upto fnFlowBatchSpec)

/-- 'laws.FnExactSpineAt', WHERE WHAT IT READS IS OF BULK AT MOST 1048576: true; the input reads as it did. -/
def fnExactSpineAtUptoRow : OpenClaim := { program := "ytlmglffdmoklcaa", sum := "66dc6f2721e7a78ffd78d73a6f3cbd0870a80641cb32fe0361c243eb8d91c524", func := "loop.example/tideline/laws.FnExactSpineAt", spec := "fnExactSpineAt", inPlace := ["internal/reflectlite.ValueOf", "internal/reflectlite.Swapper", "(internal/reflectlite.Value).Len"], unfollowed := true, recurses := true, plainKeys := false, apart := false, narrowed := true }
def FnExactSpineAtUptoSaid : Prop := fnExactSpineAtUptoRow.holds Try.pinned (OpenSpec.upto fnExactSpineAtSpec)

/-- 'laws.FnFlowOnce', WHERE WHAT IT READS IS OF BULK AT MOST 1048576: true; the input reads as it did. -/
def fnFlowOnceUptoRow : OpenClaim := { program := "ytlmglffdmoklcaa", sum := "66dc6f2721e7a78ffd78d73a6f3cbd0870a80641cb32fe0361c243eb8d91c524", func := "loop.example/tideline/laws.FnFlowOnce", spec := "fnFlowOnce", inPlace := ["internal/reflectlite.ValueOf", "internal/reflectlite.Swapper", "(internal/reflectlite.Value).Len"], unfollowed := true, recurses := true, plainKeys := false, apart := false, narrowed := true }
def FnFlowOnceUptoSaid : Prop := fnFlowOnceUptoRow.holds Try.pinned (OpenSpec.upto fnFlowOnceSpec)

/-- 'laws.FnFlowSumTimes', WHERE WHAT IT READS IS OF BULK AT MOST 1048576: true; the input reads as it did. -/
def fnFlowSumTimesUptoRow : OpenClaim := { program := "ytlmglffdmoklcaa", sum := "66dc6f2721e7a78ffd78d73a6f3cbd0870a80641cb32fe0361c243eb8d91c524", func := "loop.example/tideline/laws.FnFlowSumTimes", spec := "fnFlowSumTimes", inPlace := ["internal/reflectlite.ValueOf", "internal/reflectlite.Swapper", "(internal/reflectlite.Value).Len"], unfollowed := true, recurses := true, plainKeys := false, apart := false, narrowed := true }
def FnFlowSumTimesUptoSaid : Prop := fnFlowSumTimesUptoRow.holds Try.pinned (OpenSpec.upto fnFlowSumTimesSpec)

/-- 'laws.FnExactFlowSum', WHERE WHAT IT READS IS OF BULK AT MOST 1048576: true; the input reads as it did. -/
def fnExactFlowSumUptoRow : OpenClaim := { program := "ytlmglffdmoklcaa", sum := "66dc6f2721e7a78ffd78d73a6f3cbd0870a80641cb32fe0361c243eb8d91c524", func := "loop.example/tideline/laws.FnExactFlowSum", spec := "fnExactFlowSum", inPlace := ["internal/reflectlite.ValueOf", "internal/reflectlite.Swapper", "(internal/reflectlite.Value).Len"], unfollowed := true, recurses := true, plainKeys := false, apart := false, narrowed := true }
def FnExactFlowSumUptoSaid : Prop := fnExactFlowSumUptoRow.holds Try.pinned (OpenSpec.upto fnExactFlowSumSpec)

/-- 'laws.FnFlowMove', WHERE WHAT IT READS IS OF BULK AT MOST 1048576: true; the input reads as it did. -/
def fnFlowMoveUptoRow : OpenClaim := { program := "ytlmglffdmoklcaa", sum := "66dc6f2721e7a78ffd78d73a6f3cbd0870a80641cb32fe0361c243eb8d91c524", func := "loop.example/tideline/laws.FnFlowMove", spec := "fnFlowMove", inPlace := ["internal/reflectlite.ValueOf", "internal/reflectlite.Swapper", "(internal/reflectlite.Value).Len"], unfollowed := true, recurses := true, plainKeys := false, apart := false, narrowed := true }
def FnFlowMoveUptoSaid : Prop := fnFlowMoveUptoRow.holds Try.pinned (OpenSpec.upto fnFlowMoveSpec)

/-- 'laws.FnSpineNot', WHERE WHAT IT READS IS OF BULK AT MOST 1048576: true; the input reads as it did. -/
def fnSpineNotUptoRow : OpenClaim := { program := "ytlmglffdmoklcaa", sum := "66dc6f2721e7a78ffd78d73a6f3cbd0870a80641cb32fe0361c243eb8d91c524", func := "loop.example/tideline/laws.FnSpineNot", spec := "fnSpineNot", inPlace := ["internal/reflectlite.ValueOf", "internal/reflectlite.Swapper", "(internal/reflectlite.Value).Len"], unfollowed := true, recurses := true, plainKeys := false, apart := false, narrowed := true }
def FnSpineNotUptoSaid : Prop := fnSpineNotUptoRow.holds Try.pinned (OpenSpec.upto fnSpineNotSpec)

/-- 'laws.FnExactSpineJoin', WHERE WHAT IT READS IS OF BULK AT MOST 1048576: true; the input reads as it did. -/
def fnExactSpineJoinUptoRow : OpenClaim := { program := "ytlmglffdmoklcaa", sum := "66dc6f2721e7a78ffd78d73a6f3cbd0870a80641cb32fe0361c243eb8d91c524", func := "loop.example/tideline/laws.FnExactSpineJoin", spec := "fnExactSpineJoin", inPlace := ["internal/reflectlite.ValueOf", "internal/reflectlite.Swapper", "(internal/reflectlite.Value).Len"], unfollowed := true, recurses := true, plainKeys := false, apart := false, narrowed := true }
def FnExactSpineJoinUptoSaid : Prop := fnExactSpineJoinUptoRow.holds Try.pinned (OpenSpec.upto fnExactSpineJoinSpec)

end Rows
end Go.Proofs.Ytlmglffdmoklcaa
