/-
  NARROWER THAN 'FOR EVERY INPUT', by the rows' own cells (each row's printed sentence says how): FnExactPlanOk: loops · FnExactPlanSet: loops.
  DERIVED. THE GIVEN ROWS OF THIS SEAT. 23 by the template 'for every input the law returns true; each argument reads behind the call as it read before'; 0 by the template 'total and deterministic' (their statements: YthljcnlmeefcjaaTotals.lean).
  GIVEN WITH THE SEED: the statements are not yours to turn. If you find one false, say at which input.
  Laid BY PROGRAM, IN A SANDBOX (cutbox-rows.mjs): the forced cells as the released guide's own fill.sh prints them over the translation db7ca7a2953c085c… (all of the seat's roots in one cut). By AI agents, Wed Nov 11 2026. No macro, syntax, notation, axiom, sorry.
-/
import Derived.Test.YthljcnlmeefcjaaChecked
import GoSem.Claim
import GoSem.ClaimJoined
import GoSem.ClaimMapViews
import Derived.JoinedTies
import Derived.KernelRfl
namespace Go.Proofs.Ythljcnlmeefcjaa
/- THE CELL 'sum', in the pinned program and in every row, IS THE sha256 OF THE DUMP (.gsa) THAT YthljcnlmeefcjaaProg.lean LOADS. Nothing in Lean hashes anything: it is a label: what it is worth is what the hold of that sum in a sandbox is worth. -/
noncomputable def Try.pinned : Pinned := { name := "ythljcnlmeefcjaa", sum := "db7ca7a2953c085c5c5b6ab6c092b358bb7915a2633a8ba76393793c96345a55", checked := Try.checked }
namespace Rows
def none {H : Type} : Left H := { results := [], args := [] }

/-- 'laws.FnExactPlanOk': WHATEVER THE INPUT: true; the input reads as it did. -/
def fnExactPlanOkSpec : ChangeSpec := { name := "fnExactPlanOk", fn := fun _ => fun
  | [d] => { results := [.lit (.bool true)], args := [d] }
  | _ => none }
def fnExactPlanOkRow : OpenClaim := { program := "ythljcnlmeefcjaa", sum := "db7ca7a2953c085c5c5b6ab6c092b358bb7915a2633a8ba76393793c96345a55", func := "loop.example/tideline/laws.FnExactPlanOk", spec := "fnExactPlanOk", recurses := true, loops := true, plainKeys := false, apart := false }
def FnExactPlanOkSaid : Prop := fnExactPlanOkRow.holds Try.pinned (OpenSpec.ofChange fnExactPlanOkSpec)

/-- ITS FALSE NEIGHBOUR: 'it returns false'. Refute it at one input. -/
def fnExactPlanOkWrong : ChangeSpec := { name := "fnExactPlanOk", fn := fun _ => fun
  | [d] => { results := [.lit (.bool false)], args := [d] }
  | _ => none }
def FnExactPlanOkWrongFalsely : Prop := fnExactPlanOkRow.holds Try.pinned (OpenSpec.ofChange fnExactPlanOkWrong)

/-- 'laws.FnSpineOk': WHATEVER THE INPUT: true; the input reads as it did. -/
def fnSpineOkSpec : ChangeSpec := { name := "fnSpineOk", fn := fun _ => fun
  | [d1, d2] => { results := [.lit (.bool true)], args := [d1, d2] }
  | _ => none }
def fnSpineOkRow : OpenClaim := { program := "ythljcnlmeefcjaa", sum := "db7ca7a2953c085c5c5b6ab6c092b358bb7915a2633a8ba76393793c96345a55", func := "loop.example/tideline/laws.FnSpineOk", spec := "fnSpineOk", inPlace := ["internal/reflectlite.ValueOf", "internal/reflectlite.Swapper", "(internal/reflectlite.Value).Len"], unfollowed := true, recurses := true, plainKeys := false, apart := false }
def FnSpineOkSaid : Prop := fnSpineOkRow.holds Try.pinned (OpenSpec.ofChange fnSpineOkSpec)

/-- ITS FALSE NEIGHBOUR: 'it returns false'. Refute it at one input. -/
def fnSpineOkWrong : ChangeSpec := { name := "fnSpineOk", fn := fun _ => fun
  | [d1, d2] => { results := [.lit (.bool false)], args := [d1, d2] }
  | _ => none }
def FnSpineOkWrongFalsely : Prop := fnSpineOkRow.holds Try.pinned (OpenSpec.ofChange fnSpineOkWrong)

/-- 'laws.FnExactSpineSince': WHATEVER THE INPUT: true; the input reads as it did. -/
def fnExactSpineSinceSpec : ChangeSpec := { name := "fnExactSpineSince", fn := fun _ => fun
  | [d1, d2] => { results := [.lit (.bool true)], args := [d1, d2] }
  | _ => none }
def fnExactSpineSinceRow : OpenClaim := { program := "ythljcnlmeefcjaa", sum := "db7ca7a2953c085c5c5b6ab6c092b358bb7915a2633a8ba76393793c96345a55", func := "loop.example/tideline/laws.FnExactSpineSince", spec := "fnExactSpineSince", plainKeys := false, apart := false }
def FnExactSpineSinceSaid : Prop := fnExactSpineSinceRow.holds Try.pinned (OpenSpec.ofChange fnExactSpineSinceSpec)

/-- ITS FALSE NEIGHBOUR: 'it returns false'. Refute it at one input. -/
def fnExactSpineSinceWrong : ChangeSpec := { name := "fnExactSpineSince", fn := fun _ => fun
  | [d1, d2] => { results := [.lit (.bool false)], args := [d1, d2] }
  | _ => none }
def FnExactSpineSinceWrongFalsely : Prop := fnExactSpineSinceRow.holds Try.pinned (OpenSpec.ofChange fnExactSpineSinceWrong)

/-- 'laws.FnSpineSinceTwice': WHATEVER THE INPUT: true; the input reads as it did. -/
def fnSpineSinceTwiceSpec : ChangeSpec := { name := "fnSpineSinceTwice", fn := fun _ => fun
  | [d] => { results := [.lit (.bool true)], args := [d] }
  | _ => none }
def fnSpineSinceTwiceRow : OpenClaim := { program := "ythljcnlmeefcjaa", sum := "db7ca7a2953c085c5c5b6ab6c092b358bb7915a2633a8ba76393793c96345a55", func := "loop.example/tideline/laws.FnSpineSinceTwice", spec := "fnSpineSinceTwice", plainKeys := false, apart := false }
def FnSpineSinceTwiceSaid : Prop := fnSpineSinceTwiceRow.holds Try.pinned (OpenSpec.ofChange fnSpineSinceTwiceSpec)

/-- ITS FALSE NEIGHBOUR: 'it returns false'. Refute it at one input. -/
def fnSpineSinceTwiceWrong : ChangeSpec := { name := "fnSpineSinceTwice", fn := fun _ => fun
  | [d] => { results := [.lit (.bool false)], args := [d] }
  | _ => none }
def FnSpineSinceTwiceWrongFalsely : Prop := fnSpineSinceTwiceRow.holds Try.pinned (OpenSpec.ofChange fnSpineSinceTwiceWrong)

/-- 'laws.FnExactSpineAll': WHATEVER THE INPUT: true; the input reads as it did. -/
def fnExactSpineAllSpec : ChangeSpec := { name := "fnExactSpineAll", fn := fun _ => fun
  | [d] => { results := [.lit (.bool true)], args := [d] }
  | _ => none }
def fnExactSpineAllRow : OpenClaim := { program := "ythljcnlmeefcjaa", sum := "db7ca7a2953c085c5c5b6ab6c092b358bb7915a2633a8ba76393793c96345a55", func := "loop.example/tideline/laws.FnExactSpineAll", spec := "fnExactSpineAll", inPlace := ["internal/reflectlite.ValueOf", "internal/reflectlite.Swapper", "(internal/reflectlite.Value).Len"], unfollowed := true, recurses := true, plainKeys := false, apart := false }
def FnExactSpineAllSaid : Prop := fnExactSpineAllRow.holds Try.pinned (OpenSpec.ofChange fnExactSpineAllSpec)

/-- ITS FALSE NEIGHBOUR: 'it returns false'. Refute it at one input. -/
def fnExactSpineAllWrong : ChangeSpec := { name := "fnExactSpineAll", fn := fun _ => fun
  | [d] => { results := [.lit (.bool false)], args := [d] }
  | _ => none }
def FnExactSpineAllWrongFalsely : Prop := fnExactSpineAllRow.holds Try.pinned (OpenSpec.ofChange fnExactSpineAllWrong)

/-- 'laws.FnFlowBatch': WHATEVER THE INPUT: true; the input reads as it did. -/
def fnFlowBatchSpec : ChangeSpec := { name := "fnFlowBatch", fn := fun _ => fun
  | [d1, d2] => { results := [.lit (.bool true)], args := [d1, d2] }
  | _ => none }
def fnFlowBatchRow : OpenClaim := { program := "ythljcnlmeefcjaa", sum := "db7ca7a2953c085c5c5b6ab6c092b358bb7915a2633a8ba76393793c96345a55", func := "loop.example/tideline/laws.FnFlowBatch", spec := "fnFlowBatch", inPlace := ["internal/reflectlite.ValueOf", "internal/reflectlite.Swapper", "(internal/reflectlite.Value).Len"], unfollowed := true, recurses := true, plainKeys := false, apart := false }
def FnFlowBatchSaid : Prop := fnFlowBatchRow.holds Try.pinned (OpenSpec.ofChange fnFlowBatchSpec)

/-- ITS FALSE NEIGHBOUR: 'it returns false'. Refute it at one input. -/
def fnFlowBatchWrong : ChangeSpec := { name := "fnFlowBatch", fn := fun _ => fun
  | [d1, d2] => { results := [.lit (.bool false)], args := [d1, d2] }
  | _ => none }
def FnFlowBatchWrongFalsely : Prop := fnFlowBatchRow.holds Try.pinned (OpenSpec.ofChange fnFlowBatchWrong)

/-- 'laws.FnExactSpineAt': WHATEVER THE INPUT: true; the input reads as it did. -/
def fnExactSpineAtSpec : ChangeSpec := { name := "fnExactSpineAt", fn := fun _ => fun
  | [d1, d2] => { results := [.lit (.bool true)], args := [d1, d2] }
  | _ => none }
def fnExactSpineAtRow : OpenClaim := { program := "ythljcnlmeefcjaa", sum := "db7ca7a2953c085c5c5b6ab6c092b358bb7915a2633a8ba76393793c96345a55", func := "loop.example/tideline/laws.FnExactSpineAt", spec := "fnExactSpineAt", inPlace := ["internal/reflectlite.ValueOf", "internal/reflectlite.Swapper", "(internal/reflectlite.Value).Len"], unfollowed := true, recurses := true, plainKeys := false, apart := false }
def FnExactSpineAtSaid : Prop := fnExactSpineAtRow.holds Try.pinned (OpenSpec.ofChange fnExactSpineAtSpec)

/-- ITS FALSE NEIGHBOUR: 'it returns false'. Refute it at one input. -/
def fnExactSpineAtWrong : ChangeSpec := { name := "fnExactSpineAt", fn := fun _ => fun
  | [d1, d2] => { results := [.lit (.bool false)], args := [d1, d2] }
  | _ => none }
def FnExactSpineAtWrongFalsely : Prop := fnExactSpineAtRow.holds Try.pinned (OpenSpec.ofChange fnExactSpineAtWrong)

/-- 'laws.FnFlowOnce': WHATEVER THE INPUT: true; the input reads as it did. -/
def fnFlowOnceSpec : ChangeSpec := { name := "fnFlowOnce", fn := fun _ => fun
  | [d] => { results := [.lit (.bool true)], args := [d] }
  | _ => none }
def fnFlowOnceRow : OpenClaim := { program := "ythljcnlmeefcjaa", sum := "db7ca7a2953c085c5c5b6ab6c092b358bb7915a2633a8ba76393793c96345a55", func := "loop.example/tideline/laws.FnFlowOnce", spec := "fnFlowOnce", inPlace := ["internal/reflectlite.ValueOf", "internal/reflectlite.Swapper", "(internal/reflectlite.Value).Len"], unfollowed := true, recurses := true, plainKeys := false, apart := false }
def FnFlowOnceSaid : Prop := fnFlowOnceRow.holds Try.pinned (OpenSpec.ofChange fnFlowOnceSpec)

/-- ITS FALSE NEIGHBOUR: 'it returns false'. Refute it at one input. -/
def fnFlowOnceWrong : ChangeSpec := { name := "fnFlowOnce", fn := fun _ => fun
  | [d] => { results := [.lit (.bool false)], args := [d] }
  | _ => none }
def FnFlowOnceWrongFalsely : Prop := fnFlowOnceRow.holds Try.pinned (OpenSpec.ofChange fnFlowOnceWrong)

/-- 'laws.FnFlowSumTimes': WHATEVER THE INPUT: true; the input reads as it did. -/
def fnFlowSumTimesSpec : ChangeSpec := { name := "fnFlowSumTimes", fn := fun _ => fun
  | [d] => { results := [.lit (.bool true)], args := [d] }
  | _ => none }
def fnFlowSumTimesRow : OpenClaim := { program := "ythljcnlmeefcjaa", sum := "db7ca7a2953c085c5c5b6ab6c092b358bb7915a2633a8ba76393793c96345a55", func := "loop.example/tideline/laws.FnFlowSumTimes", spec := "fnFlowSumTimes", inPlace := ["internal/reflectlite.ValueOf", "internal/reflectlite.Swapper", "(internal/reflectlite.Value).Len"], unfollowed := true, recurses := true, plainKeys := false, apart := false }
def FnFlowSumTimesSaid : Prop := fnFlowSumTimesRow.holds Try.pinned (OpenSpec.ofChange fnFlowSumTimesSpec)

/-- ITS FALSE NEIGHBOUR: 'it returns false'. Refute it at one input. -/
def fnFlowSumTimesWrong : ChangeSpec := { name := "fnFlowSumTimes", fn := fun _ => fun
  | [d] => { results := [.lit (.bool false)], args := [d] }
  | _ => none }
def FnFlowSumTimesWrongFalsely : Prop := fnFlowSumTimesRow.holds Try.pinned (OpenSpec.ofChange fnFlowSumTimesWrong)

/-- 'laws.FnExactFlowSum': WHATEVER THE INPUT: true; the input reads as it did. -/
def fnExactFlowSumSpec : ChangeSpec := { name := "fnExactFlowSum", fn := fun _ => fun
  | [d1, d2] => { results := [.lit (.bool true)], args := [d1, d2] }
  | _ => none }
def fnExactFlowSumRow : OpenClaim := { program := "ythljcnlmeefcjaa", sum := "db7ca7a2953c085c5c5b6ab6c092b358bb7915a2633a8ba76393793c96345a55", func := "loop.example/tideline/laws.FnExactFlowSum", spec := "fnExactFlowSum", inPlace := ["internal/reflectlite.ValueOf", "internal/reflectlite.Swapper", "(internal/reflectlite.Value).Len"], unfollowed := true, recurses := true, plainKeys := false, apart := false }
def FnExactFlowSumSaid : Prop := fnExactFlowSumRow.holds Try.pinned (OpenSpec.ofChange fnExactFlowSumSpec)

/-- ITS FALSE NEIGHBOUR: 'it returns false'. Refute it at one input. -/
def fnExactFlowSumWrong : ChangeSpec := { name := "fnExactFlowSum", fn := fun _ => fun
  | [d1, d2] => { results := [.lit (.bool false)], args := [d1, d2] }
  | _ => none }
def FnExactFlowSumWrongFalsely : Prop := fnExactFlowSumRow.holds Try.pinned (OpenSpec.ofChange fnExactFlowSumWrong)

/-- 'laws.FnFlowMove': WHATEVER THE INPUT: true; the input reads as it did. -/
def fnFlowMoveSpec : ChangeSpec := { name := "fnFlowMove", fn := fun _ => fun
  | [d1, d2] => { results := [.lit (.bool true)], args := [d1, d2] }
  | _ => none }
def fnFlowMoveRow : OpenClaim := { program := "ythljcnlmeefcjaa", sum := "db7ca7a2953c085c5c5b6ab6c092b358bb7915a2633a8ba76393793c96345a55", func := "loop.example/tideline/laws.FnFlowMove", spec := "fnFlowMove", inPlace := ["internal/reflectlite.ValueOf", "internal/reflectlite.Swapper", "(internal/reflectlite.Value).Len"], unfollowed := true, recurses := true, plainKeys := false, apart := false }
def FnFlowMoveSaid : Prop := fnFlowMoveRow.holds Try.pinned (OpenSpec.ofChange fnFlowMoveSpec)

/-- ITS FALSE NEIGHBOUR: 'it returns false'. Refute it at one input. -/
def fnFlowMoveWrong : ChangeSpec := { name := "fnFlowMove", fn := fun _ => fun
  | [d1, d2] => { results := [.lit (.bool false)], args := [d1, d2] }
  | _ => none }
def FnFlowMoveWrongFalsely : Prop := fnFlowMoveRow.holds Try.pinned (OpenSpec.ofChange fnFlowMoveWrong)

/-- 'laws.FnSpineNot': WHATEVER THE INPUT: true; the input reads as it did. -/
def fnSpineNotSpec : ChangeSpec := { name := "fnSpineNot", fn := fun _ => fun
  | [d] => { results := [.lit (.bool true)], args := [d] }
  | _ => none }
def fnSpineNotRow : OpenClaim := { program := "ythljcnlmeefcjaa", sum := "db7ca7a2953c085c5c5b6ab6c092b358bb7915a2633a8ba76393793c96345a55", func := "loop.example/tideline/laws.FnSpineNot", spec := "fnSpineNot", inPlace := ["internal/reflectlite.ValueOf", "internal/reflectlite.Swapper", "(internal/reflectlite.Value).Len"], unfollowed := true, recurses := true, plainKeys := false, apart := false }
def FnSpineNotSaid : Prop := fnSpineNotRow.holds Try.pinned (OpenSpec.ofChange fnSpineNotSpec)

/-- ITS FALSE NEIGHBOUR: 'it returns false'. Refute it at one input. -/
def fnSpineNotWrong : ChangeSpec := { name := "fnSpineNot", fn := fun _ => fun
  | [d] => { results := [.lit (.bool false)], args := [d] }
  | _ => none }
def FnSpineNotWrongFalsely : Prop := fnSpineNotRow.holds Try.pinned (OpenSpec.ofChange fnSpineNotWrong)

/-- 'laws.FnExactSpineJoin': WHATEVER THE INPUT: true; the input reads as it did. -/
def fnExactSpineJoinSpec : ChangeSpec := { name := "fnExactSpineJoin", fn := fun _ => fun
  | [d1, d2] => { results := [.lit (.bool true)], args := [d1, d2] }
  | _ => none }
def fnExactSpineJoinRow : OpenClaim := { program := "ythljcnlmeefcjaa", sum := "db7ca7a2953c085c5c5b6ab6c092b358bb7915a2633a8ba76393793c96345a55", func := "loop.example/tideline/laws.FnExactSpineJoin", spec := "fnExactSpineJoin", inPlace := ["internal/reflectlite.ValueOf", "internal/reflectlite.Swapper", "(internal/reflectlite.Value).Len"], unfollowed := true, recurses := true, plainKeys := false, apart := false }
def FnExactSpineJoinSaid : Prop := fnExactSpineJoinRow.holds Try.pinned (OpenSpec.ofChange fnExactSpineJoinSpec)

/-- ITS FALSE NEIGHBOUR: 'it returns false'. Refute it at one input. -/
def fnExactSpineJoinWrong : ChangeSpec := { name := "fnExactSpineJoin", fn := fun _ => fun
  | [d1, d2] => { results := [.lit (.bool false)], args := [d1, d2] }
  | _ => none }
def FnExactSpineJoinWrongFalsely : Prop := fnExactSpineJoinRow.holds Try.pinned (OpenSpec.ofChange fnExactSpineJoinWrong)

/-- 'laws.FnFlowNone': WHATEVER THE INPUT: true; the input reads as it did. -/
def fnFlowNoneSpec : ChangeSpec := { name := "fnFlowNone", fn := fun _ => fun
  | [d] => { results := [.lit (.bool true)], args := [d] }
  | _ => none }
def fnFlowNoneRow : OpenClaim := { program := "ythljcnlmeefcjaa", sum := "db7ca7a2953c085c5c5b6ab6c092b358bb7915a2633a8ba76393793c96345a55", func := "loop.example/tideline/laws.FnFlowNone", spec := "fnFlowNone", inPlace := ["internal/reflectlite.ValueOf", "internal/reflectlite.Swapper", "(internal/reflectlite.Value).Len"], unfollowed := true, recurses := true, plainKeys := false, apart := false }
def FnFlowNoneSaid : Prop := fnFlowNoneRow.holds Try.pinned (OpenSpec.ofChange fnFlowNoneSpec)

/-- ITS FALSE NEIGHBOUR: 'it returns false'. Refute it at one input. -/
def fnFlowNoneWrong : ChangeSpec := { name := "fnFlowNone", fn := fun _ => fun
  | [d] => { results := [.lit (.bool false)], args := [d] }
  | _ => none }
def FnFlowNoneWrongFalsely : Prop := fnFlowNoneRow.holds Try.pinned (OpenSpec.ofChange fnFlowNoneWrong)

/-- 'laws.FnSpineAll': WHATEVER THE INPUT: true; the input reads as it did. -/
def fnSpineAllSpec : ChangeSpec := { name := "fnSpineAll", fn := fun _ => fun
  | [d] => { results := [.lit (.bool true)], args := [d] }
  | _ => none }
def fnSpineAllRow : OpenClaim := { program := "ythljcnlmeefcjaa", sum := "db7ca7a2953c085c5c5b6ab6c092b358bb7915a2633a8ba76393793c96345a55", func := "loop.example/tideline/laws.FnSpineAll", spec := "fnSpineAll", inPlace := ["internal/reflectlite.ValueOf", "internal/reflectlite.Swapper", "(internal/reflectlite.Value).Len"], unfollowed := true, recurses := true, plainKeys := false, apart := false }
def FnSpineAllSaid : Prop := fnSpineAllRow.holds Try.pinned (OpenSpec.ofChange fnSpineAllSpec)

/-- ITS FALSE NEIGHBOUR: 'it returns false'. Refute it at one input. -/
def fnSpineAllWrong : ChangeSpec := { name := "fnSpineAll", fn := fun _ => fun
  | [d] => { results := [.lit (.bool false)], args := [d] }
  | _ => none }
def FnSpineAllWrongFalsely : Prop := fnSpineAllRow.holds Try.pinned (OpenSpec.ofChange fnSpineAllWrong)

/-- 'laws.FnSpineLess': WHATEVER THE INPUT: true; the input reads as it did. -/
def fnSpineLessSpec : ChangeSpec := { name := "fnSpineLess", fn := fun _ => fun
  | [d] => { results := [.lit (.bool true)], args := [d] }
  | _ => none }
def fnSpineLessRow : OpenClaim := { program := "ythljcnlmeefcjaa", sum := "db7ca7a2953c085c5c5b6ab6c092b358bb7915a2633a8ba76393793c96345a55", func := "loop.example/tideline/laws.FnSpineLess", spec := "fnSpineLess", inPlace := ["internal/reflectlite.ValueOf", "internal/reflectlite.Swapper", "(internal/reflectlite.Value).Len"], unfollowed := true, recurses := true, plainKeys := false, apart := false }
def FnSpineLessSaid : Prop := fnSpineLessRow.holds Try.pinned (OpenSpec.ofChange fnSpineLessSpec)

/-- ITS FALSE NEIGHBOUR: 'it returns false'. Refute it at one input. -/
def fnSpineLessWrong : ChangeSpec := { name := "fnSpineLess", fn := fun _ => fun
  | [d] => { results := [.lit (.bool false)], args := [d] }
  | _ => none }
def FnSpineLessWrongFalsely : Prop := fnSpineLessRow.holds Try.pinned (OpenSpec.ofChange fnSpineLessWrong)

/-- 'laws.FnFlowSum': WHATEVER THE INPUT: true; the input reads as it did. -/
def fnFlowSumSpec : ChangeSpec := { name := "fnFlowSum", fn := fun _ => fun
  | [d] => { results := [.lit (.bool true)], args := [d] }
  | _ => none }
def fnFlowSumRow : OpenClaim := { program := "ythljcnlmeefcjaa", sum := "db7ca7a2953c085c5c5b6ab6c092b358bb7915a2633a8ba76393793c96345a55", func := "loop.example/tideline/laws.FnFlowSum", spec := "fnFlowSum", inPlace := ["internal/reflectlite.ValueOf", "internal/reflectlite.Swapper", "(internal/reflectlite.Value).Len"], unfollowed := true, recurses := true, plainKeys := false, apart := false }
def FnFlowSumSaid : Prop := fnFlowSumRow.holds Try.pinned (OpenSpec.ofChange fnFlowSumSpec)

/-- ITS FALSE NEIGHBOUR: 'it returns false'. Refute it at one input. -/
def fnFlowSumWrong : ChangeSpec := { name := "fnFlowSum", fn := fun _ => fun
  | [d] => { results := [.lit (.bool false)], args := [d] }
  | _ => none }
def FnFlowSumWrongFalsely : Prop := fnFlowSumRow.holds Try.pinned (OpenSpec.ofChange fnFlowSumWrong)

/-- 'laws.FnPlanSetOk': WHATEVER THE INPUT: true; the input reads as it did. -/
def fnPlanSetOkSpec : ChangeSpec := { name := "fnPlanSetOk", fn := fun _ => fun
  | [d] => { results := [.lit (.bool true)], args := [d] }
  | _ => none }
def fnPlanSetOkRow : OpenClaim := { program := "ythljcnlmeefcjaa", sum := "db7ca7a2953c085c5c5b6ab6c092b358bb7915a2633a8ba76393793c96345a55", func := "loop.example/tideline/laws.FnPlanSetOk", spec := "fnPlanSetOk", inPlace := ["internal/reflectlite.ValueOf", "internal/reflectlite.Swapper", "(internal/reflectlite.Value).Len"], unfollowed := true, recurses := true, plainKeys := false, apart := false }
def FnPlanSetOkSaid : Prop := fnPlanSetOkRow.holds Try.pinned (OpenSpec.ofChange fnPlanSetOkSpec)

/-- ITS FALSE NEIGHBOUR: 'it returns false'. Refute it at one input. -/
def fnPlanSetOkWrong : ChangeSpec := { name := "fnPlanSetOk", fn := fun _ => fun
  | [d] => { results := [.lit (.bool false)], args := [d] }
  | _ => none }
def FnPlanSetOkWrongFalsely : Prop := fnPlanSetOkRow.holds Try.pinned (OpenSpec.ofChange fnPlanSetOkWrong)

/-- 'laws.FnSpineSince': WHATEVER THE INPUT: true; the input reads as it did. -/
def fnSpineSinceSpec : ChangeSpec := { name := "fnSpineSince", fn := fun _ => fun
  | [d] => { results := [.lit (.bool true)], args := [d] }
  | _ => none }
def fnSpineSinceRow : OpenClaim := { program := "ythljcnlmeefcjaa", sum := "db7ca7a2953c085c5c5b6ab6c092b358bb7915a2633a8ba76393793c96345a55", func := "loop.example/tideline/laws.FnSpineSince", spec := "fnSpineSince", inPlace := ["internal/reflectlite.ValueOf", "internal/reflectlite.Swapper", "(internal/reflectlite.Value).Len"], unfollowed := true, recurses := true, plainKeys := false, apart := false }
def FnSpineSinceSaid : Prop := fnSpineSinceRow.holds Try.pinned (OpenSpec.ofChange fnSpineSinceSpec)

/-- ITS FALSE NEIGHBOUR: 'it returns false'. Refute it at one input. -/
def fnSpineSinceWrong : ChangeSpec := { name := "fnSpineSince", fn := fun _ => fun
  | [d] => { results := [.lit (.bool false)], args := [d] }
  | _ => none }
def FnSpineSinceWrongFalsely : Prop := fnSpineSinceRow.holds Try.pinned (OpenSpec.ofChange fnSpineSinceWrong)

/-- 'laws.FnSpineFew': WHATEVER THE INPUT: true; the input reads as it did. -/
def fnSpineFewSpec : ChangeSpec := { name := "fnSpineFew", fn := fun _ => fun
  | [d] => { results := [.lit (.bool true)], args := [d] }
  | _ => none }
def fnSpineFewRow : OpenClaim := { program := "ythljcnlmeefcjaa", sum := "db7ca7a2953c085c5c5b6ab6c092b358bb7915a2633a8ba76393793c96345a55", func := "loop.example/tideline/laws.FnSpineFew", spec := "fnSpineFew", inPlace := ["internal/reflectlite.ValueOf", "internal/reflectlite.Swapper", "(internal/reflectlite.Value).Len"], unfollowed := true, recurses := true, plainKeys := false, apart := false }
def FnSpineFewSaid : Prop := fnSpineFewRow.holds Try.pinned (OpenSpec.ofChange fnSpineFewSpec)

/-- ITS FALSE NEIGHBOUR: 'it returns false'. Refute it at one input. -/
def fnSpineFewWrong : ChangeSpec := { name := "fnSpineFew", fn := fun _ => fun
  | [d] => { results := [.lit (.bool false)], args := [d] }
  | _ => none }
def FnSpineFewWrongFalsely : Prop := fnSpineFewRow.holds Try.pinned (OpenSpec.ofChange fnSpineFewWrong)

/-- 'laws.FnExactSpineIn': WHATEVER THE INPUT: true; the input reads as it did. -/
def fnExactSpineInSpec : ChangeSpec := { name := "fnExactSpineIn", fn := fun _ => fun
  | [d1, d2] => { results := [.lit (.bool true)], args := [d1, d2] }
  | _ => none }
def fnExactSpineInRow : OpenClaim := { program := "ythljcnlmeefcjaa", sum := "db7ca7a2953c085c5c5b6ab6c092b358bb7915a2633a8ba76393793c96345a55", func := "loop.example/tideline/laws.FnExactSpineIn", spec := "fnExactSpineIn", inPlace := ["internal/reflectlite.ValueOf", "internal/reflectlite.Swapper", "(internal/reflectlite.Value).Len"], unfollowed := true, recurses := true, plainKeys := false, apart := false }
def FnExactSpineInSaid : Prop := fnExactSpineInRow.holds Try.pinned (OpenSpec.ofChange fnExactSpineInSpec)

/-- ITS FALSE NEIGHBOUR: 'it returns false'. Refute it at one input. -/
def fnExactSpineInWrong : ChangeSpec := { name := "fnExactSpineIn", fn := fun _ => fun
  | [d1, d2] => { results := [.lit (.bool false)], args := [d1, d2] }
  | _ => none }
def FnExactSpineInWrongFalsely : Prop := fnExactSpineInRow.holds Try.pinned (OpenSpec.ofChange fnExactSpineInWrong)

/-- 'laws.FnSpineEmpty': WHATEVER THE INPUT: true; the input reads as it did. -/
def fnSpineEmptySpec : ChangeSpec := { name := "fnSpineEmpty", fn := fun _ => fun
  | [d] => { results := [.lit (.bool true)], args := [d] }
  | _ => none }
def fnSpineEmptyRow : OpenClaim := { program := "ythljcnlmeefcjaa", sum := "db7ca7a2953c085c5c5b6ab6c092b358bb7915a2633a8ba76393793c96345a55", func := "loop.example/tideline/laws.FnSpineEmpty", spec := "fnSpineEmpty", inPlace := ["internal/reflectlite.ValueOf", "internal/reflectlite.Swapper", "(internal/reflectlite.Value).Len"], unfollowed := true, recurses := true, plainKeys := false, apart := false }
def FnSpineEmptySaid : Prop := fnSpineEmptyRow.holds Try.pinned (OpenSpec.ofChange fnSpineEmptySpec)

/-- ITS FALSE NEIGHBOUR: 'it returns false'. Refute it at one input. -/
def fnSpineEmptyWrong : ChangeSpec := { name := "fnSpineEmpty", fn := fun _ => fun
  | [d] => { results := [.lit (.bool false)], args := [d] }
  | _ => none }
def FnSpineEmptyWrongFalsely : Prop := fnSpineEmptyRow.holds Try.pinned (OpenSpec.ofChange fnSpineEmptyWrong)

/-- 'laws.FnExactPlanSet': WHATEVER THE INPUT: true; the input reads as it did. -/
def fnExactPlanSetSpec : ChangeSpec := { name := "fnExactPlanSet", fn := fun _ => fun
  | [d1, d2] => { results := [.lit (.bool true)], args := [d1, d2] }
  | _ => none }
def fnExactPlanSetRow : OpenClaim := { program := "ythljcnlmeefcjaa", sum := "db7ca7a2953c085c5c5b6ab6c092b358bb7915a2633a8ba76393793c96345a55", func := "loop.example/tideline/laws.FnExactPlanSet", spec := "fnExactPlanSet", inPlace := ["internal/reflectlite.ValueOf", "internal/reflectlite.Swapper", "(internal/reflectlite.Value).Len"], unfollowed := true, recurses := true, loops := true, plainKeys := false, apart := false }
def FnExactPlanSetSaid : Prop := fnExactPlanSetRow.holds Try.pinned (OpenSpec.ofChange fnExactPlanSetSpec)

/-- ITS FALSE NEIGHBOUR: 'it returns false'. Refute it at one input. -/
def fnExactPlanSetWrong : ChangeSpec := { name := "fnExactPlanSet", fn := fun _ => fun
  | [d1, d2] => { results := [.lit (.bool false)], args := [d1, d2] }
  | _ => none }
def FnExactPlanSetWrongFalsely : Prop := fnExactPlanSetRow.holds Try.pinned (OpenSpec.ofChange fnExactPlanSetWrong)

/- THE SECOND FORM. 'bulk': how many values and letters a reading holds, each counted each time it is reached (what is shared counts as often as it is met; a slice's spare places count too). A statement '..UptoSaid' is the law's where the arguments, and the package variables that the reading takes, are together of bulk at most 1048576: NARROWER than '..Said'. Prove '..Said' where nothing that the law and all that it calls make is longer than what came in: it says more and counts as full. Else prove '..UptoSaid'. A law counts once. -/
mutual
def uptoBulk {H : Type} : DataW H → Nat
  | .lit (.string bytes) => bytes.length + 1
  | .lit _ => 1
  | .nil => 1
  | .ptr d => uptoBulk d + 1
  | .slice elems spare => uptoBulkAll elems + uptoBulkAll spare + 1
  | .agg parts => uptoBulkAll parts + 1
  | .iface _ d => uptoBulk d + 1
  | .map entries => uptoBulkEntries entries + 1
  | .held _ => 1
def uptoBulkAll {H : Type} : List (DataW H) → Nat
  | [] => 0
  | d :: r => uptoBulk d + uptoBulkAll r
def uptoBulkEntries {H : Type} : List (Lit × DataW H) → Nat
  | [] => 0
  | x :: r => uptoBulkEntry x + uptoBulkEntries r
def uptoBulkEntry {H : Type} : Lit × DataW H → Nat
  | (.string bytes, d) => bytes.length + uptoBulk d + 1
  | (_, d) => uptoBulk d + 1
 end
def uptoSmall : (H : Type) → List (DataW H) → Bool := fun _ ds => decide (uptoBulkAll ds ≤ 1048576)
def OpenSpec.upto (s : _root_.Go.ChangeSpec) : _root_.Go.OpenSpec := { _root_.Go.OpenSpec.ofChange s with cond := some uptoSmall }

/-- 'laws.FnExactPlanOk', WHERE WHAT IT READS IS OF BULK AT MOST 1048576: true; the input reads as it did. -/
def fnExactPlanOkUptoRow : OpenClaim := { program := "ythljcnlmeefcjaa", sum := "db7ca7a2953c085c5c5b6ab6c092b358bb7915a2633a8ba76393793c96345a55", func := "loop.example/tideline/laws.FnExactPlanOk", spec := "fnExactPlanOk", recurses := true, loops := true, plainKeys := false, apart := false, narrowed := true }
def FnExactPlanOkUptoSaid : Prop := fnExactPlanOkUptoRow.holds Try.pinned (OpenSpec.upto fnExactPlanOkSpec)

/-- 'laws.FnSpineOk', WHERE WHAT IT READS IS OF BULK AT MOST 1048576: true; the input reads as it did. -/
def fnSpineOkUptoRow : OpenClaim := { program := "ythljcnlmeefcjaa", sum := "db7ca7a2953c085c5c5b6ab6c092b358bb7915a2633a8ba76393793c96345a55", func := "loop.example/tideline/laws.FnSpineOk", spec := "fnSpineOk", inPlace := ["internal/reflectlite.ValueOf", "internal/reflectlite.Swapper", "(internal/reflectlite.Value).Len"], unfollowed := true, recurses := true, plainKeys := false, apart := false, narrowed := true }
def FnSpineOkUptoSaid : Prop := fnSpineOkUptoRow.holds Try.pinned (OpenSpec.upto fnSpineOkSpec)

/-- 'laws.FnExactSpineSince', WHERE WHAT IT READS IS OF BULK AT MOST 1048576: true; the input reads as it did. -/
def fnExactSpineSinceUptoRow : OpenClaim := { program := "ythljcnlmeefcjaa", sum := "db7ca7a2953c085c5c5b6ab6c092b358bb7915a2633a8ba76393793c96345a55", func := "loop.example/tideline/laws.FnExactSpineSince", spec := "fnExactSpineSince", plainKeys := false, apart := false, narrowed := true }
def FnExactSpineSinceUptoSaid : Prop := fnExactSpineSinceUptoRow.holds Try.pinned (OpenSpec.upto fnExactSpineSinceSpec)

/-- 'laws.FnSpineSinceTwice', WHERE WHAT IT READS IS OF BULK AT MOST 1048576: true; the input reads as it did. -/
def fnSpineSinceTwiceUptoRow : OpenClaim := { program := "ythljcnlmeefcjaa", sum := "db7ca7a2953c085c5c5b6ab6c092b358bb7915a2633a8ba76393793c96345a55", func := "loop.example/tideline/laws.FnSpineSinceTwice", spec := "fnSpineSinceTwice", plainKeys := false, apart := false, narrowed := true }
def FnSpineSinceTwiceUptoSaid : Prop := fnSpineSinceTwiceUptoRow.holds Try.pinned (OpenSpec.upto fnSpineSinceTwiceSpec)

/-- 'laws.FnExactSpineAll', WHERE WHAT IT READS IS OF BULK AT MOST 1048576: true; the input reads as it did. -/
def fnExactSpineAllUptoRow : OpenClaim := { program := "ythljcnlmeefcjaa", sum := "db7ca7a2953c085c5c5b6ab6c092b358bb7915a2633a8ba76393793c96345a55", func := "loop.example/tideline/laws.FnExactSpineAll", spec := "fnExactSpineAll", inPlace := ["internal/reflectlite.ValueOf", "internal/reflectlite.Swapper", "(internal/reflectlite.Value).Len"], unfollowed := true, recurses := true, plainKeys := false, apart := false, narrowed := true }
def FnExactSpineAllUptoSaid : Prop := fnExactSpineAllUptoRow.holds Try.pinned (OpenSpec.upto fnExactSpineAllSpec)

/-- 'laws.FnFlowBatch', WHERE WHAT IT READS IS OF BULK AT MOST 1048576: true; the input reads as it did. -/
def fnFlowBatchUptoRow : OpenClaim := { program := "ythljcnlmeefcjaa", sum := "db7ca7a2953c085c5c5b6ab6c092b358bb7915a2633a8ba76393793c96345a55", func := "loop.example/tideline/laws.FnFlowBatch", spec := "fnFlowBatch", inPlace := ["internal/reflectlite.ValueOf", "internal/reflectlite.Swapper", "(internal/reflectlite.Value).Len"], unfollowed := true, recurses := true, plainKeys := false, apart := false, narrowed := true }
def FnFlowBatchUptoSaid : Prop := fnFlowBatchUptoRow.holds Try.pinned (OpenSpec.upto fnFlowBatchSpec)

/-- 'laws.FnExactSpineAt', WHERE WHAT IT READS IS OF BULK AT MOST 1048576: true; the input reads as it did. -/
def fnExactSpineAtUptoRow : OpenClaim := { program := "ythljcnlmeefcjaa", sum := "db7ca7a2953c085c5c5b6ab6c092b358bb7915a2633a8ba76393793c96345a55", func := "loop.example/tideline/laws.FnExactSpineAt", spec := "fnExactSpineAt", inPlace := ["internal/reflectlite.ValueOf", "internal/reflectlite.Swapper", "(internal/reflectlite.Value).Len"], unfollowed := true, recurses := true, plainKeys := false, apart := false, narrowed := true }
def FnExactSpineAtUptoSaid : Prop := fnExactSpineAtUptoRow.holds Try.pinned (OpenSpec.upto fnExactSpineAtSpec)

/-- 'laws.FnFlowOnce', WHERE WHAT IT READS IS OF BULK AT MOST 1048576: true; the input reads as it did. -/
def fnFlowOnceUptoRow : OpenClaim := { program := "ythljcnlmeefcjaa", sum := "db7ca7a2953c085c5c5b6ab6c092b358bb7915a2633a8ba76393793c96345a55", func := "loop.example/tideline/laws.FnFlowOnce", spec := "fnFlowOnce", inPlace := ["internal/reflectlite.ValueOf", "internal/reflectlite.Swapper", "(internal/reflectlite.Value).Len"], unfollowed := true, recurses := true, plainKeys := false, apart := false, narrowed := true }
def FnFlowOnceUptoSaid : Prop := fnFlowOnceUptoRow.holds Try.pinned (OpenSpec.upto fnFlowOnceSpec)

/-- 'laws.FnFlowSumTimes', WHERE WHAT IT READS IS OF BULK AT MOST 1048576: true; the input reads as it did. -/
def fnFlowSumTimesUptoRow : OpenClaim := { program := "ythljcnlmeefcjaa", sum := "db7ca7a2953c085c5c5b6ab6c092b358bb7915a2633a8ba76393793c96345a55", func := "loop.example/tideline/laws.FnFlowSumTimes", spec := "fnFlowSumTimes", inPlace := ["internal/reflectlite.ValueOf", "internal/reflectlite.Swapper", "(internal/reflectlite.Value).Len"], unfollowed := true, recurses := true, plainKeys := false, apart := false, narrowed := true }
def FnFlowSumTimesUptoSaid : Prop := fnFlowSumTimesUptoRow.holds Try.pinned (OpenSpec.upto fnFlowSumTimesSpec)

/-- 'laws.FnExactFlowSum', WHERE WHAT IT READS IS OF BULK AT MOST 1048576: true; the input reads as it did. -/
def fnExactFlowSumUptoRow : OpenClaim := { program := "ythljcnlmeefcjaa", sum := "db7ca7a2953c085c5c5b6ab6c092b358bb7915a2633a8ba76393793c96345a55", func := "loop.example/tideline/laws.FnExactFlowSum", spec := "fnExactFlowSum", inPlace := ["internal/reflectlite.ValueOf", "internal/reflectlite.Swapper", "(internal/reflectlite.Value).Len"], unfollowed := true, recurses := true, plainKeys := false, apart := false, narrowed := true }
def FnExactFlowSumUptoSaid : Prop := fnExactFlowSumUptoRow.holds Try.pinned (OpenSpec.upto fnExactFlowSumSpec)

/-- 'laws.FnFlowMove', WHERE WHAT IT READS IS OF BULK AT MOST 1048576: true; the input reads as it did. -/
def fnFlowMoveUptoRow : OpenClaim := { program := "ythljcnlmeefcjaa", sum := "db7ca7a2953c085c5c5b6ab6c092b358bb7915a2633a8ba76393793c96345a55", func := "loop.example/tideline/laws.FnFlowMove", spec := "fnFlowMove", inPlace := ["internal/reflectlite.ValueOf", "internal/reflectlite.Swapper", "(internal/reflectlite.Value).Len"], unfollowed := true, recurses := true, plainKeys := false, apart := false, narrowed := true }
def FnFlowMoveUptoSaid : Prop := fnFlowMoveUptoRow.holds Try.pinned (OpenSpec.upto fnFlowMoveSpec)

/-- 'laws.FnSpineNot', WHERE WHAT IT READS IS OF BULK AT MOST 1048576: true; the input reads as it did. -/
def fnSpineNotUptoRow : OpenClaim := { program := "ythljcnlmeefcjaa", sum := "db7ca7a2953c085c5c5b6ab6c092b358bb7915a2633a8ba76393793c96345a55", func := "loop.example/tideline/laws.FnSpineNot", spec := "fnSpineNot", inPlace := ["internal/reflectlite.ValueOf", "internal/reflectlite.Swapper", "(internal/reflectlite.Value).Len"], unfollowed := true, recurses := true, plainKeys := false, apart := false, narrowed := true }
def FnSpineNotUptoSaid : Prop := fnSpineNotUptoRow.holds Try.pinned (OpenSpec.upto fnSpineNotSpec)

/-- 'laws.FnExactSpineJoin', WHERE WHAT IT READS IS OF BULK AT MOST 1048576: true; the input reads as it did. -/
def fnExactSpineJoinUptoRow : OpenClaim := { program := "ythljcnlmeefcjaa", sum := "db7ca7a2953c085c5c5b6ab6c092b358bb7915a2633a8ba76393793c96345a55", func := "loop.example/tideline/laws.FnExactSpineJoin", spec := "fnExactSpineJoin", inPlace := ["internal/reflectlite.ValueOf", "internal/reflectlite.Swapper", "(internal/reflectlite.Value).Len"], unfollowed := true, recurses := true, plainKeys := false, apart := false, narrowed := true }
def FnExactSpineJoinUptoSaid : Prop := fnExactSpineJoinUptoRow.holds Try.pinned (OpenSpec.upto fnExactSpineJoinSpec)

/-- 'laws.FnFlowNone', WHERE WHAT IT READS IS OF BULK AT MOST 1048576: true; the input reads as it did. -/
def fnFlowNoneUptoRow : OpenClaim := { program := "ythljcnlmeefcjaa", sum := "db7ca7a2953c085c5c5b6ab6c092b358bb7915a2633a8ba76393793c96345a55", func := "loop.example/tideline/laws.FnFlowNone", spec := "fnFlowNone", inPlace := ["internal/reflectlite.ValueOf", "internal/reflectlite.Swapper", "(internal/reflectlite.Value).Len"], unfollowed := true, recurses := true, plainKeys := false, apart := false, narrowed := true }
def FnFlowNoneUptoSaid : Prop := fnFlowNoneUptoRow.holds Try.pinned (OpenSpec.upto fnFlowNoneSpec)

/-- 'laws.FnSpineAll', WHERE WHAT IT READS IS OF BULK AT MOST 1048576: true; the input reads as it did. -/
def fnSpineAllUptoRow : OpenClaim := { program := "ythljcnlmeefcjaa", sum := "db7ca7a2953c085c5c5b6ab6c092b358bb7915a2633a8ba76393793c96345a55", func := "loop.example/tideline/laws.FnSpineAll", spec := "fnSpineAll", inPlace := ["internal/reflectlite.ValueOf", "internal/reflectlite.Swapper", "(internal/reflectlite.Value).Len"], unfollowed := true, recurses := true, plainKeys := false, apart := false, narrowed := true }
def FnSpineAllUptoSaid : Prop := fnSpineAllUptoRow.holds Try.pinned (OpenSpec.upto fnSpineAllSpec)

/-- 'laws.FnSpineLess', WHERE WHAT IT READS IS OF BULK AT MOST 1048576: true; the input reads as it did. -/
def fnSpineLessUptoRow : OpenClaim := { program := "ythljcnlmeefcjaa", sum := "db7ca7a2953c085c5c5b6ab6c092b358bb7915a2633a8ba76393793c96345a55", func := "loop.example/tideline/laws.FnSpineLess", spec := "fnSpineLess", inPlace := ["internal/reflectlite.ValueOf", "internal/reflectlite.Swapper", "(internal/reflectlite.Value).Len"], unfollowed := true, recurses := true, plainKeys := false, apart := false, narrowed := true }
def FnSpineLessUptoSaid : Prop := fnSpineLessUptoRow.holds Try.pinned (OpenSpec.upto fnSpineLessSpec)

/-- 'laws.FnFlowSum', WHERE WHAT IT READS IS OF BULK AT MOST 1048576: true; the input reads as it did. -/
def fnFlowSumUptoRow : OpenClaim := { program := "ythljcnlmeefcjaa", sum := "db7ca7a2953c085c5c5b6ab6c092b358bb7915a2633a8ba76393793c96345a55", func := "loop.example/tideline/laws.FnFlowSum", spec := "fnFlowSum", inPlace := ["internal/reflectlite.ValueOf", "internal/reflectlite.Swapper", "(internal/reflectlite.Value).Len"], unfollowed := true, recurses := true, plainKeys := false, apart := false, narrowed := true }
def FnFlowSumUptoSaid : Prop := fnFlowSumUptoRow.holds Try.pinned (OpenSpec.upto fnFlowSumSpec)

/-- 'laws.FnPlanSetOk', WHERE WHAT IT READS IS OF BULK AT MOST 1048576: true; the input reads as it did. -/
def fnPlanSetOkUptoRow : OpenClaim := { program := "ythljcnlmeefcjaa", sum := "db7ca7a2953c085c5c5b6ab6c092b358bb7915a2633a8ba76393793c96345a55", func := "loop.example/tideline/laws.FnPlanSetOk", spec := "fnPlanSetOk", inPlace := ["internal/reflectlite.ValueOf", "internal/reflectlite.Swapper", "(internal/reflectlite.Value).Len"], unfollowed := true, recurses := true, plainKeys := false, apart := false, narrowed := true }
def FnPlanSetOkUptoSaid : Prop := fnPlanSetOkUptoRow.holds Try.pinned (OpenSpec.upto fnPlanSetOkSpec)

/-- 'laws.FnSpineSince', WHERE WHAT IT READS IS OF BULK AT MOST 1048576: true; the input reads as it did. -/
def fnSpineSinceUptoRow : OpenClaim := { program := "ythljcnlmeefcjaa", sum := "db7ca7a2953c085c5c5b6ab6c092b358bb7915a2633a8ba76393793c96345a55", func := "loop.example/tideline/laws.FnSpineSince", spec := "fnSpineSince", inPlace := ["internal/reflectlite.ValueOf", "internal/reflectlite.Swapper", "(internal/reflectlite.Value).Len"], unfollowed := true, recurses := true, plainKeys := false, apart := false, narrowed := true }
def FnSpineSinceUptoSaid : Prop := fnSpineSinceUptoRow.holds Try.pinned (OpenSpec.upto fnSpineSinceSpec)

/-- 'laws.FnSpineFew', WHERE WHAT IT READS IS OF BULK AT MOST 1048576: true; the input reads as it did. -/
def fnSpineFewUptoRow : OpenClaim := { program := "ythljcnlmeefcjaa", sum := "db7ca7a2953c085c5c5b6ab6c092b358bb7915a2633a8ba76393793c96345a55", func := "loop.example/tideline/laws.FnSpineFew", spec := "fnSpineFew", inPlace := ["internal/reflectlite.ValueOf", "internal/reflectlite.Swapper", "(internal/reflectlite.Value).Len"], unfollowed := true, recurses := true, plainKeys := false, apart := false, narrowed := true }
def FnSpineFewUptoSaid : Prop := fnSpineFewUptoRow.holds Try.pinned (OpenSpec.upto fnSpineFewSpec)

/-- 'laws.FnExactSpineIn', WHERE WHAT IT READS IS OF BULK AT MOST 1048576: true; the input reads as it did. -/
def fnExactSpineInUptoRow : OpenClaim := { program := "ythljcnlmeefcjaa", sum := "db7ca7a2953c085c5c5b6ab6c092b358bb7915a2633a8ba76393793c96345a55", func := "loop.example/tideline/laws.FnExactSpineIn", spec := "fnExactSpineIn", inPlace := ["internal/reflectlite.ValueOf", "internal/reflectlite.Swapper", "(internal/reflectlite.Value).Len"], unfollowed := true, recurses := true, plainKeys := false, apart := false, narrowed := true }
def FnExactSpineInUptoSaid : Prop := fnExactSpineInUptoRow.holds Try.pinned (OpenSpec.upto fnExactSpineInSpec)

/-- 'laws.FnSpineEmpty', WHERE WHAT IT READS IS OF BULK AT MOST 1048576: true; the input reads as it did. -/
def fnSpineEmptyUptoRow : OpenClaim := { program := "ythljcnlmeefcjaa", sum := "db7ca7a2953c085c5c5b6ab6c092b358bb7915a2633a8ba76393793c96345a55", func := "loop.example/tideline/laws.FnSpineEmpty", spec := "fnSpineEmpty", inPlace := ["internal/reflectlite.ValueOf", "internal/reflectlite.Swapper", "(internal/reflectlite.Value).Len"], unfollowed := true, recurses := true, plainKeys := false, apart := false, narrowed := true }
def FnSpineEmptyUptoSaid : Prop := fnSpineEmptyUptoRow.holds Try.pinned (OpenSpec.upto fnSpineEmptySpec)

/-- 'laws.FnExactPlanSet', WHERE WHAT IT READS IS OF BULK AT MOST 1048576: true; the input reads as it did. -/
def fnExactPlanSetUptoRow : OpenClaim := { program := "ythljcnlmeefcjaa", sum := "db7ca7a2953c085c5c5b6ab6c092b358bb7915a2633a8ba76393793c96345a55", func := "loop.example/tideline/laws.FnExactPlanSet", spec := "fnExactPlanSet", inPlace := ["internal/reflectlite.ValueOf", "internal/reflectlite.Swapper", "(internal/reflectlite.Value).Len"], unfollowed := true, recurses := true, loops := true, plainKeys := false, apart := false, narrowed := true }
def FnExactPlanSetUptoSaid : Prop := fnExactPlanSetUptoRow.holds Try.pinned (OpenSpec.upto fnExactPlanSetSpec)

end Rows
end Go.Proofs.Ythljcnlmeefcjaa
