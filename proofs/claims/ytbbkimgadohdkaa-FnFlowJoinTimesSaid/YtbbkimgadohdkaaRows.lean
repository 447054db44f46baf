/-
  No cell of these rows narrows 'for every input' (looked for: loops, veiled, ifaces, maps, wideKeys, modest, calm, conditions, laid).
  DERIVED. THE GIVEN ROWS OF THIS SEAT. 11 by the template 'for every input the law returns true; each argument reads behind the call as it read before'; 0 by the template 'total and deterministic' (their statements: YtbbkimgadohdkaaTotals.lean).
  GIVEN WITH THE SEED: the statements are not yours to turn. If you find one false, say at which input.
  Laid BY PROGRAM, IN A SANDBOX (cutbox-rows.mjs): the forced cells as the released guide's own fill.sh prints them over the translation ec0cefa081de3668… (all of the seat's roots in one cut). By AI agents, Wed Nov 11 2026. No macro, syntax, notation, axiom, sorry.
-/
import Derived.Test.YtbbkimgadohdkaaChecked
import GoSem.Claim
import GoSem.ClaimJoined
import GoSem.ClaimMapViews
import Derived.JoinedTies
import Derived.KernelRfl
namespace Go.Proofs.Ytbbkimgadohdkaa
/- THE CELL 'sum', in the pinned program and in every row, IS THE sha256 OF THE DUMP (.gsa) THAT YtbbkimgadohdkaaProg.lean LOADS. Nothing in Lean hashes anything: it is a label: what it is worth is what the hold of that sum in a sandbox is worth. -/
noncomputable def Try.pinned : Pinned := { name := "ytbbkimgadohdkaa", sum := "ec0cefa081de3668b17af8e3110ab42fa73575e3a4141e0debb30762ddc003a9", checked := Try.checked }
namespace Rows
def none {H : Type} : Left H := { results := [], args := [] }

/-- 'laws.FnSetJoinLess': WHATEVER THE INPUT: true; the input reads as it did. -/
def fnSetJoinLessSpec : ChangeSpec := { name := "fnSetJoinLess", fn := fun _ => fun
  | [d] => { results := [.lit (.bool true)], args := [d] }
  | _ => none }
def fnSetJoinLessRow : OpenClaim := { program := "ytbbkimgadohdkaa", sum := "ec0cefa081de3668b17af8e3110ab42fa73575e3a4141e0debb30762ddc003a9", func := "loop.example/tideline/laws.FnSetJoinLess", spec := "fnSetJoinLess", inPlace := ["internal/reflectlite.ValueOf", "internal/reflectlite.Swapper", "(internal/reflectlite.Value).Len"], unfollowed := true, recurses := true, plainKeys := false, apart := false }
def FnSetJoinLessSaid : Prop := fnSetJoinLessRow.holds Try.pinned (OpenSpec.ofChange fnSetJoinLessSpec)

/-- ITS FALSE NEIGHBOUR: 'it returns false'. Refute it at one input. -/
def fnSetJoinLessWrong : ChangeSpec := { name := "fnSetJoinLess", fn := fun _ => fun
  | [d] => { results := [.lit (.bool false)], args := [d] }
  | _ => none }
def FnSetJoinLessWrongFalsely : Prop := fnSetJoinLessRow.holds Try.pinned (OpenSpec.ofChange fnSetJoinLessWrong)

/-- 'laws.FnSetMore': WHATEVER THE INPUT: true; the input reads as it did. -/
def fnSetMoreSpec : ChangeSpec := { name := "fnSetMore", fn := fun _ => fun
  | [d] => { results := [.lit (.bool true)], args := [d] }
  | _ => none }
def fnSetMoreRow : OpenClaim := { program := "ytbbkimgadohdkaa", sum := "ec0cefa081de3668b17af8e3110ab42fa73575e3a4141e0debb30762ddc003a9", func := "loop.example/tideline/laws.FnSetMore", spec := "fnSetMore", inPlace := ["internal/reflectlite.ValueOf", "internal/reflectlite.Swapper", "(internal/reflectlite.Value).Len"], unfollowed := true, recurses := true, plainKeys := false, apart := false }
def FnSetMoreSaid : Prop := fnSetMoreRow.holds Try.pinned (OpenSpec.ofChange fnSetMoreSpec)

/-- ITS FALSE NEIGHBOUR: 'it returns false'. Refute it at one input. -/
def fnSetMoreWrong : ChangeSpec := { name := "fnSetMore", fn := fun _ => fun
  | [d] => { results := [.lit (.bool false)], args := [d] }
  | _ => none }
def FnSetMoreWrongFalsely : Prop := fnSetMoreRow.holds Try.pinned (OpenSpec.ofChange fnSetMoreWrong)

/-- 'laws.FnSetSwap': WHATEVER THE INPUT: true; the input reads as it did. -/
def fnSetSwapSpec : ChangeSpec := { name := "fnSetSwap", fn := fun _ => fun
  | [d] => { results := [.lit (.bool true)], args := [d] }
  | _ => none }
def fnSetSwapRow : OpenClaim := { program := "ytbbkimgadohdkaa", sum := "ec0cefa081de3668b17af8e3110ab42fa73575e3a4141e0debb30762ddc003a9", func := "loop.example/tideline/laws.FnSetSwap", spec := "fnSetSwap", inPlace := ["internal/reflectlite.ValueOf", "internal/reflectlite.Swapper", "(internal/reflectlite.Value).Len"], unfollowed := true, recurses := true, plainKeys := false, apart := false }
def FnSetSwapSaid : Prop := fnSetSwapRow.holds Try.pinned (OpenSpec.ofChange fnSetSwapSpec)

/-- ITS FALSE NEIGHBOUR: 'it returns false'. Refute it at one input. -/
def fnSetSwapWrong : ChangeSpec := { name := "fnSetSwap", fn := fun _ => fun
  | [d] => { results := [.lit (.bool false)], args := [d] }
  | _ => none }
def FnSetSwapWrongFalsely : Prop := fnSetSwapRow.holds Try.pinned (OpenSpec.ofChange fnSetSwapWrong)

/-- 'laws.FnSetEach': WHATEVER THE INPUT: true; the input reads as it did. -/
def fnSetEachSpec : ChangeSpec := { name := "fnSetEach", fn := fun _ => fun
  | [d1, d2] => { results := [.lit (.bool true)], args := [d1, d2] }
  | _ => none }
def fnSetEachRow : OpenClaim := { program := "ytbbkimgadohdkaa", sum := "ec0cefa081de3668b17af8e3110ab42fa73575e3a4141e0debb30762ddc003a9", func := "loop.example/tideline/laws.FnSetEach", spec := "fnSetEach", inPlace := ["internal/reflectlite.ValueOf", "internal/reflectlite.Swapper", "(internal/reflectlite.Value).Len"], unfollowed := true, recurses := true, plainKeys := false, apart := false }
def FnSetEachSaid : Prop := fnSetEachRow.holds Try.pinned (OpenSpec.ofChange fnSetEachSpec)

/-- ITS FALSE NEIGHBOUR: 'it returns false'. Refute it at one input. -/
def fnSetEachWrong : ChangeSpec := { name := "fnSetEach", fn := fun _ => fun
  | [d1, d2] => { results := [.lit (.bool false)], args := [d1, d2] }
  | _ => none }
def FnSetEachWrongFalsely : Prop := fnSetEachRow.holds Try.pinned (OpenSpec.ofChange fnSetEachWrong)

/-- 'laws.FnFlowJoinBoth': WHATEVER THE INPUT: true; the input reads as it did. -/
def fnFlowJoinBothSpec : ChangeSpec := { name := "fnFlowJoinBoth", fn := fun _ => fun
  | [d1, d2] => { results := [.lit (.bool true)], args := [d1, d2] }
  | _ => none }
def fnFlowJoinBothRow : OpenClaim := { program := "ytbbkimgadohdkaa", sum := "ec0cefa081de3668b17af8e3110ab42fa73575e3a4141e0debb30762ddc003a9", func := "loop.example/tideline/laws.FnFlowJoinBoth", spec := "fnFlowJoinBoth", inPlace := ["internal/reflectlite.ValueOf", "internal/reflectlite.Swapper", "(internal/reflectlite.Value).Len"], unfollowed := true, recurses := true, plainKeys := false, apart := false }
def FnFlowJoinBothSaid : Prop := fnFlowJoinBothRow.holds Try.pinned (OpenSpec.ofChange fnFlowJoinBothSpec)

/-- ITS FALSE NEIGHBOUR: 'it returns false'. Refute it at one input. -/
def fnFlowJoinBothWrong : ChangeSpec := { name := "fnFlowJoinBoth", fn := fun _ => fun
  | [d1, d2] => { results := [.lit (.bool false)], args := [d1, d2] }
  | _ => none }
def FnFlowJoinBothWrongFalsely : Prop := fnFlowJoinBothRow.holds Try.pinned (OpenSpec.ofChange fnFlowJoinBothWrong)

/-- 'laws.FnSetKeep': WHATEVER THE INPUT: true; the input reads as it did. -/
def fnSetKeepSpec : ChangeSpec := { name := "fnSetKeep", fn := fun _ => fun
  | [d1, d2] => { results := [.lit (.bool true)], args := [d1, d2] }
  | _ => none }
def fnSetKeepRow : OpenClaim := { program := "ytbbkimgadohdkaa", sum := "ec0cefa081de3668b17af8e3110ab42fa73575e3a4141e0debb30762ddc003a9", func := "loop.example/tideline/laws.FnSetKeep", spec := "fnSetKeep", inPlace := ["internal/reflectlite.ValueOf", "internal/reflectlite.Swapper", "(internal/reflectlite.Value).Len"], unfollowed := true, recurses := true, plainKeys := false, apart := false }
def FnSetKeepSaid : Prop := fnSetKeepRow.holds Try.pinned (OpenSpec.ofChange fnSetKeepSpec)

/-- ITS FALSE NEIGHBOUR: 'it returns false'. Refute it at one input. -/
def fnSetKeepWrong : ChangeSpec := { name := "fnSetKeep", fn := fun _ => fun
  | [d1, d2] => { results := [.lit (.bool false)], args := [d1, d2] }
  | _ => none }
def FnSetKeepWrongFalsely : Prop := fnSetKeepRow.holds Try.pinned (OpenSpec.ofChange fnSetKeepWrong)

/-- 'laws.FnExactFlowJoin': WHATEVER THE INPUT: true; the input reads as it did. -/
def fnExactFlowJoinSpec : ChangeSpec := { name := "fnExactFlowJoin", fn := fun _ => fun
  | [d1, d2] => { results := [.lit (.bool true)], args := [d1, d2] }
  | _ => none }
def fnExactFlowJoinRow : OpenClaim := { program := "ytbbkimgadohdkaa", sum := "ec0cefa081de3668b17af8e3110ab42fa73575e3a4141e0debb30762ddc003a9", func := "loop.example/tideline/laws.FnExactFlowJoin", spec := "fnExactFlowJoin", inPlace := ["internal/reflectlite.ValueOf", "internal/reflectlite.Swapper", "(internal/reflectlite.Value).Len"], unfollowed := true, recurses := true, plainKeys := false, apart := false }
def FnExactFlowJoinSaid : Prop := fnExactFlowJoinRow.holds Try.pinned (OpenSpec.ofChange fnExactFlowJoinSpec)

/-- ITS FALSE NEIGHBOUR: 'it returns false'. Refute it at one input. -/
def fnExactFlowJoinWrong : ChangeSpec := { name := "fnExactFlowJoin", fn := fun _ => fun
  | [d1, d2] => { results := [.lit (.bool false)], args := [d1, d2] }
  | _ => none }
def FnExactFlowJoinWrongFalsely : Prop := fnExactFlowJoinRow.holds Try.pinned (OpenSpec.ofChange fnExactFlowJoinWrong)

/-- 'laws.FnFlowJoinTimes': WHATEVER THE INPUT: true; the input reads as it did. -/
def fnFlowJoinTimesSpec : ChangeSpec := { name := "fnFlowJoinTimes", fn := fun _ => fun
  | [d] => { results := [.lit (.bool true)], args := [d] }
  | _ => none }
def fnFlowJoinTimesRow : OpenClaim := { program := "ytbbkimgadohdkaa", sum := "ec0cefa081de3668b17af8e3110ab42fa73575e3a4141e0debb30762ddc003a9", func := "loop.example/tideline/laws.FnFlowJoinTimes", spec := "fnFlowJoinTimes", inPlace := ["internal/reflectlite.ValueOf", "internal/reflectlite.Swapper", "(internal/reflectlite.Value).Len"], unfollowed := true, recurses := true, plainKeys := false, apart := false }
def FnFlowJoinTimesSaid : Prop := fnFlowJoinTimesRow.holds Try.pinned (OpenSpec.ofChange fnFlowJoinTimesSpec)

/-- ITS FALSE NEIGHBOUR: 'it returns false'. Refute it at one input. -/
def fnFlowJoinTimesWrong : ChangeSpec := { name := "fnFlowJoinTimes", fn := fun _ => fun
  | [d] => { results := [.lit (.bool false)], args := [d] }
  | _ => none }
def FnFlowJoinTimesWrongFalsely : Prop := fnFlowJoinTimesRow.holds Try.pinned (OpenSpec.ofChange fnFlowJoinTimesWrong)

/-- 'laws.FnBatchBoth': WHATEVER THE INPUT: true; the input reads as it did. -/
def fnBatchBothSpec : ChangeSpec := { name := "fnBatchBoth", fn := fun _ => fun
  | [d] => { results := [.lit (.bool true)], args := [d] }
  | _ => none }
def fnBatchBothRow : OpenClaim := { program := "ytbbkimgadohdkaa", sum := "ec0cefa081de3668b17af8e3110ab42fa73575e3a4141e0debb30762ddc003a9", func := "loop.example/tideline/laws.FnBatchBoth", spec := "fnBatchBoth", inPlace := ["internal/reflectlite.ValueOf", "internal/reflectlite.Swapper", "(internal/reflectlite.Value).Len"], unfollowed := true, recurses := true, plainKeys := false, apart := false }
def FnBatchBothSaid : Prop := fnBatchBothRow.holds Try.pinned (OpenSpec.ofChange fnBatchBothSpec)

/-- ITS FALSE NEIGHBOUR: 'it returns false'. Refute it at one input. -/
def fnBatchBothWrong : ChangeSpec := { name := "fnBatchBoth", fn := fun _ => fun
  | [d] => { results := [.lit (.bool false)], args := [d] }
  | _ => none }
def FnBatchBothWrongFalsely : Prop := fnBatchBothRow.holds Try.pinned (OpenSpec.ofChange fnBatchBothWrong)

/-- 'laws.FnFlowEachBoth': WHATEVER THE INPUT: true; the input reads as it did. -/
def fnFlowEachBothSpec : ChangeSpec := { name := "fnFlowEachBoth", fn := fun _ => fun
  | [d1, d2] => { results := [.lit (.bool true)], args := [d1, d2] }
  | _ => none }
def fnFlowEachBothRow : OpenClaim := { program := "ytbbkimgadohdkaa", sum := "ec0cefa081de3668b17af8e3110ab42fa73575e3a4141e0debb30762ddc003a9", func := "loop.example/tideline/laws.FnFlowEachBoth", spec := "fnFlowEachBoth", inPlace := ["internal/reflectlite.ValueOf", "internal/reflectlite.Swapper", "(internal/reflectlite.Value).Len"], unfollowed := true, recurses := true, plainKeys := false, apart := false }
def FnFlowEachBothSaid : Prop := fnFlowEachBothRow.holds Try.pinned (OpenSpec.ofChange fnFlowEachBothSpec)

/-- ITS FALSE NEIGHBOUR: 'it returns false'. Refute it at one input. -/
def fnFlowEachBothWrong : ChangeSpec := { name := "fnFlowEachBoth", fn := fun _ => fun
  | [d1, d2] => { results := [.lit (.bool false)], args := [d1, d2] }
  | _ => none }
def FnFlowEachBothWrongFalsely : Prop := fnFlowEachBothRow.holds Try.pinned (OpenSpec.ofChange fnFlowEachBothWrong)

/-- 'laws.FnExactFlowEach': WHATEVER THE INPUT: true; the input reads as it did. -/
def fnExactFlowEachSpec : ChangeSpec := { name := "fnExactFlowEach", fn := fun _ => fun
  | [d1, d2] => { results := [.lit (.bool true)], args := [d1, d2] }
  | _ => none }
def fnExactFlowEachRow : OpenClaim := { program := "ytbbkimgadohdkaa", sum := "ec0cefa081de3668b17af8e3110ab42fa73575e3a4141e0debb30762ddc003a9", func := "loop.example/tideline/laws.FnExactFlowEach", spec := "fnExactFlowEach", inPlace := ["internal/reflectlite.ValueOf", "internal/reflectlite.Swapper", "(internal/reflectlite.Value).Len"], unfollowed := true, recurses := true, plainKeys := false, apart := false }
def FnExactFlowEachSaid : Prop := fnExactFlowEachRow.holds Try.pinned (OpenSpec.ofChange fnExactFlowEachSpec)

/-- ITS FALSE NEIGHBOUR: 'it returns false'. Refute it at one input. -/
def fnExactFlowEachWrong : ChangeSpec := { name := "fnExactFlowEach", fn := fun _ => fun
  | [d1, d2] => { results := [.lit (.bool false)], args := [d1, d2] }
  | _ => none }
def FnExactFlowEachWrongFalsely : Prop := fnExactFlowEachRow.holds Try.pinned (OpenSpec.ofChange fnExactFlowEachWrong)

/- THE SECOND FORM. 'bulk': how many values and letters a reading holds, each counted each time it is reached (what is shared counts as often as it is met; a slice's spare places count too). A statement '..UptoSaid' is the law's where the arguments, and the package variables that the reading takes, are together of bulk at most 1048576: NARROWER than '..Said'. Prove '..Said' where nothing that the law and all that it calls make is longer than what came in: it says more and counts as full. Else prove '..UptoSaid'. A law counts once. -/
mutual
def uptoBulk {H : Type} : DataW H → Nat
  | .lit (.string bytes) => bytes.length + 1
  | .lit _ => 1
  | .nil => 1
  | .ptr d => uptoBulk d + 1
  | .slice elems spare => uptoBulkAll elems + uptoBulkAll spare + 1
  | .agg parts => uptoBulkAll parts + 1
  | .iface _ d => uptoBulk d + 1
  | .map entries => uptoBulkEntries entries + 1
  | .held _ => 1
def uptoBulkAll {H : Type} : List (DataW H) → Nat
  | [] => 0
  | d :: r => uptoBulk d + uptoBulkAll r
def uptoBulkEntries {H : Type} : List (Lit × DataW H) → Nat
  | [] => 0
  | x :: r => uptoBulkEntry x + uptoBulkEntries r
def uptoBulkEntry {H : Type} : Lit × DataW H → Nat
  | (.string bytes, d) => bytes.length + uptoBulk d + 1
  | (_, d) => uptoBulk d + 1
 end
def uptoSmall : (H : Type) → List (DataW H) → Bool := fun _ ds => decide (uptoBulkAll ds ≤ 1048576)
def OpenSpec.upto (s : _root_.Go.ChangeSpec) : _root_.Go.OpenSpec := { _root_.Go.OpenSpec.ofChange s with cond := some uptoSmall }

/-- 'laws.FnSetJoinLess', WHERE WHAT IT READS IS OF BULK AT MOST 1048576: true; the input reads as it did. -/
def fnSetJoinLessUptoRow : OpenClaim := { program := "ytbbkimgadohdkaa", sum := "ec0cefa081de3668b17af8e3110ab42fa73575e3a4141e0debb30762ddc003a9", func := "loop.example/tideline/laws.FnSetJoinLess", spec := "fnSetJoinLess", inPlace := ["internal/reflectlite.ValueOf", "internal/reflectlite.Swapper", "(internal/reflectlite.Value).Len"], unfollowed := true, recurses := true, plainKeys := false, apart := false, narrowed := true }
def FnSetJoinLessUptoSaid : Prop := fnSetJoinLessUptoRow.holds Try.pinned (OpenSpec.upto fnSetJoinLessSpec)

/-- 'laws.FnSetMore', WHERE WHAT IT READS IS OF BULK AT MOST 1048576: true; the input reads as it did. -/
def fnSetMoreUptoRow : OpenClaim := { program := "ytbbkimgadohdkaa", sum := "ec0cefa081de3668b17af8e3110ab42fa73575e3a4141e0debb30762ddc003a9", func := "loop.example/tideline/laws.FnSetMore", spec := "fnSetMore", inPlace := ["internal/reflectlite.ValueOf", "internal/reflectlite.Swapper", "(internal/reflectlite.Value).Len"], unfollowed := true, recurses := true, plainKeys := false, apart := false, narrowed := true }
def FnSetMoreUptoSaid : Prop := fnSetMoreUptoRow.holds Try.pinned (OpenSpec.upto fnSetMoreSpec)

/-- 'laws.FnSetSwap', WHERE WHAT IT READS IS OF BULK AT MOST 1048576: true; the input reads as it did. -/
def fnSetSwapUptoRow : OpenClaim := { program := "ytbbkimgadohdkaa", sum := "ec0cefa081de3668b17af8e3110ab42fa73575e3a4141e0debb30762ddc003a9", func := "loop.example/tideline/laws.FnSetSwap", spec := "fnSetSwap", inPlace := ["internal/reflectlite.ValueOf", "internal/reflectlite.Swapper", "(internal/reflectlite.Value).Len"], unfollowed := true, recurses := true, plainKeys := false, apart := false, narrowed := true }
def FnSetSwapUptoSaid : Prop := fnSetSwapUptoRow.holds Try.pinned (OpenSpec.upto fnSetSwapSpec)

/-- 'laws.FnSetEach', WHERE WHAT IT READS IS OF BULK AT MOST 1048576: true; the input reads as it did. -/
def fnSetEachUptoRow : OpenClaim := { program := "ytbbkimgadohdkaa", sum := "ec0cefa081de3668b17af8e3110ab42fa73575e3a4141e0debb30762ddc003a9", func := "loop.example/tideline/laws.FnSetEach", spec := "fnSetEach", inPlace := ["internal/reflectlite.ValueOf", "internal/reflectlite.Swapper", "(internal/reflectlite.Value).Len"], unfollowed := true, recurses := true, plainKeys := false, apart := false, narrowed := true }
def FnSetEachUptoSaid : Prop := fnSetEachUptoRow.holds Try.pinned (OpenSpec.upto fnSetEachSpec)

/-- 'laws.FnFlowJoinBoth', WHERE WHAT IT READS IS OF BULK AT MOST 1048576: true; the input reads as it did. -/
def fnFlowJoinBothUptoRow : OpenClaim := { program := "ytbbkimgadohdkaa", sum := "ec0cefa081de3668b17af8e3110ab42fa73575e3a4141e0debb30762ddc003a9", func := "loop.example/tideline/laws.FnFlowJoinBoth", spec := "fnFlowJoinBoth", inPlace := ["internal/reflectlite.ValueOf", "internal/reflectlite.Swapper", "(internal/reflectlite.Value).Len"], unfollowed := true, recurses := true, plainKeys := false, apart := false, narrowed := true }
def FnFlowJoinBothUptoSaid : Prop := fnFlowJoinBothUptoRow.holds Try.pinned (OpenSpec.upto fnFlowJoinBothSpec)

/-- 'laws.FnSetKeep', WHERE WHAT IT READS IS OF BULK AT MOST 1048576: true; the input reads as it did. -/
def fnSetKeepUptoRow : OpenClaim := { program := "ytbbkimgadohdkaa", sum := "ec0cefa081de3668b17af8e3110ab42fa73575e3a4141e0debb30762ddc003a9", func := "loop.example/tideline/laws.FnSetKeep", spec := "fnSetKeep", inPlace := ["internal/reflectlite.ValueOf", "internal/reflectlite.Swapper", "(internal/reflectlite.Value).Len"], unfollowed := true, recurses := true, plainKeys := false, apart := false, narrowed := true }
def FnSetKeepUptoSaid : Prop := fnSetKeepUptoRow.holds Try.pinned (OpenSpec.upto fnSetKeepSpec)

/-- 'laws.FnExactFlowJoin', WHERE WHAT IT READS IS OF BULK AT MOST 1048576: true; the input reads as it did. -/
def fnExactFlowJoinUptoRow : OpenClaim := { program := "ytbbkimgadohdkaa", sum := "ec0cefa081de3668b17af8e3110ab42fa73575e3a4141e0debb30762ddc003a9", func := "loop.example/tideline/laws.FnExactFlowJoin", spec := "fnExactFlowJoin", inPlace := ["internal/reflectlite.ValueOf", "internal/reflectlite.Swapper", "(internal/reflectlite.Value).Len"], unfollowed := true, recurses := true, plainKeys := false, apart := false, narrowed := true }
def FnExactFlowJoinUptoSaid : Prop := fnExactFlowJoinUptoRow.holds Try.pinned (OpenSpec.upto fnExactFlowJoinSpec)

/-- 'laws.FnFlowJoinTimes', WHERE WHAT IT READS IS OF BULK AT MOST 1048576: true; the input reads as it did. -/
def fnFlowJoinTimesUptoRow : OpenClaim := { program := "ytbbkimgadohdkaa", sum := "ec0cefa081de3668b17af8e3110ab42fa73575e3a4141e0debb30762ddc003a9", func := "loop.example/tideline/laws.FnFlowJoinTimes", spec := "fnFlowJoinTimes", inPlace := ["internal/reflectlite.ValueOf", "internal/reflectlite.Swapper", "(internal/reflectlite.Value).Len"], unfollowed := true, recurses := true, plainKeys := false, apart := false, narrowed := true }
def FnFlowJoinTimesUptoSaid : Prop := fnFlowJoinTimesUptoRow.holds Try.pinned (OpenSpec.upto fnFlowJoinTimesSpec)

/-- 'laws.FnBatchBoth', WHERE WHAT IT READS IS OF BULK AT MOST 1048576: true; the input reads as it did. -/
def fnBatchBothUptoRow : OpenClaim := { program := "ytbbkimgadohdkaa", sum := "ec0cefa081de3668b17af8e3110ab42fa73575e3a4141e0debb30762ddc003a9", func := "loop.example/tideline/laws.FnBatchBoth", spec := "fnBatchBoth", inPlace := ["internal/reflectlite.ValueOf", "internal/reflectlite.Swapper", "(internal/reflectlite.Value).Len"], unfollowed := true, recurses := true, plainKeys := false, apart := false, narrowed := true }
def FnBatchBothUptoSaid : Prop := fnBatchBothUptoRow.holds Try.pinned (OpenSpec.upto fnBatchBothSpec)

/-- 'laws.FnFlowEachBoth', WHERE WHAT IT READS IS OF BULK AT MOST 1048576: true; the input reads as it did. -/
def fnFlowEachBothUptoRow : OpenClaim := { program := "ytbbkimgadohdkaa", sum := "ec0cefa081de3668b17af8e3110ab42fa73575e3a4141e0debb30762ddc003a9", func := "loop.example/tideline/laws.FnFlowEachBoth", spec := "fnFlowEachBoth", inPlace := ["internal/reflectlite.ValueOf", "internal/reflectlite.Swapper", "(internal/reflectlite.Value).Len"], unfollowed := true, recurses := true, plainKeys := false, apart := false, narrowed := true }
def FnFlowEachBothUptoSaid : Prop := fnFlowEachBothUptoRow.holds Try.pinned (OpenSpec.upto fnFlowEachBothSpec)

/-- 'laws.FnExactFlowEach', WHERE WHAT IT READS IS OF BULK AT MOST 1048576: true; the input reads as it did. -/
def fnExactFlowEachUptoRow : OpenClaim := { program := "ytbbkimgadohdkaa", sum := "ec0cefa081de3668b17af8e3110ab42fa73575e3a4141e0debb30762ddc003a9", func := "loop.example/tideline/laws.FnExactFlowEach", spec := "fnExactFlowEach", inPlace := ["internal/reflectlite.ValueOf", "internal/reflectlite.Swapper", "(internal/reflectlite.Value).Len"], unfollowed := true, recurses := true, plainKeys := false, apart := false, narrowed := true }
def FnExactFlowEachUptoSaid : Prop := fnExactFlowEachUptoRow.holds Try.pinned (OpenSpec.upto fnExactFlowEachSpec)

end Rows
end Go.Proofs.Ytbbkimgadohdkaa
