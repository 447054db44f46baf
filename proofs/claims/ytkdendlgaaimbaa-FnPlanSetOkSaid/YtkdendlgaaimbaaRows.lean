/-
  NARROWER THAN 'FOR EVERY INPUT', by the rows' own cells (each row's printed sentence says how): FnExactPlanSet: loops.
  DERIVED. THE GIVEN ROWS OF THIS SEAT. 11 by the template 'for every input the law returns true; each argument reads behind the call as it read before'; 0 by the template 'total and deterministic' (their statements: YtkdendlgaaimbaaTotals.lean).
  GIVEN WITH THE SEED: the statements are not yours to turn. If you find one false, say at which input.
  Laid BY PROGRAM, IN A SANDBOX (cutbox-rows.mjs): the forced cells as the released guide's own fill.sh prints them over the translation 55781d6954128d30… (all of the seat's roots in one cut). By AI agents, Wed Nov 11 2026. No macro, syntax, notation, axiom, sorry.
-/
import Derived.Test.YtkdendlgaaimbaaChecked
import GoSem.Claim
import GoSem.ClaimJoined
import GoSem.ClaimMapViews
import Derived.JoinedTies
import Derived.KernelRfl
namespace Go.Proofs.Ytkdendlgaaimbaa
/- THE CELL 'sum', in the pinned program and in every row, IS THE sha256 OF THE DUMP (.gsa) THAT YtkdendlgaaimbaaProg.lean LOADS. Nothing in Lean hashes anything: it is a label: what it is worth is what the hold of that sum in a sandbox is worth. -/
noncomputable def Try.pinned : Pinned := { name := "ytkdendlgaaimbaa", sum := "55781d6954128d3095716cfe3489fd53af986fb60685f95e6af6087cb6d9c41d", checked := Try.checked }
namespace Rows
def none {H : Type} : Left H := { results := [], args := [] }

/-- 'laws.FnSpineOk': WHATEVER THE INPUT: true; the input reads as it did. -/
def fnSpineOkSpec : ChangeSpec := { name := "fnSpineOk", fn := fun _ => fun
  | [d1, d2] => { results := [.lit (.bool true)], args := [d1, d2] }
  | _ => none }
def fnSpineOkRow : OpenClaim := { program := "ytkdendlgaaimbaa", sum := "55781d6954128d3095716cfe3489fd53af986fb60685f95e6af6087cb6d9c41d", func := "loop.example/tideline/laws.FnSpineOk", spec := "fnSpineOk", inPlace := ["internal/reflectlite.ValueOf", "internal/reflectlite.Swapper", "(internal/reflectlite.Value).Len"], unfollowed := true, recurses := true, plainKeys := false, apart := false }
def FnSpineOkSaid : Prop := fnSpineOkRow.holds Try.pinned (OpenSpec.ofChange fnSpineOkSpec)

/-- ITS FALSE NEIGHBOUR: 'it returns false'. Refute it at one input. -/
def fnSpineOkWrong : ChangeSpec := { name := "fnSpineOk", fn := fun _ => fun
  | [d1, d2] => { results := [.lit (.bool false)], args := [d1, d2] }
  | _ => none }
def FnSpineOkWrongFalsely : Prop := fnSpineOkRow.holds Try.pinned (OpenSpec.ofChange fnSpineOkWrong)

/-- 'laws.FnSpineSinceTwice': WHATEVER THE INPUT: true; the input reads as it did. -/
def fnSpineSinceTwiceSpec : ChangeSpec := { name := "fnSpineSinceTwice", fn := fun _ => fun
  | [d] => { results := [.lit (.bool true)], args := [d] }
  | _ => none }
def fnSpineSinceTwiceRow : OpenClaim := { program := "ytkdendlgaaimbaa", sum := "55781d6954128d3095716cfe3489fd53af986fb60685f95e6af6087cb6d9c41d", func := "loop.example/tideline/laws.FnSpineSinceTwice", spec := "fnSpineSinceTwice", plainKeys := false, apart := false }
def FnSpineSinceTwiceSaid : Prop := fnSpineSinceTwiceRow.holds Try.pinned (OpenSpec.ofChange fnSpineSinceTwiceSpec)

/-- ITS FALSE NEIGHBOUR: 'it returns false'. Refute it at one input. -/
def fnSpineSinceTwiceWrong : ChangeSpec := { name := "fnSpineSinceTwice", fn := fun _ => fun
  | [d] => { results := [.lit (.bool false)], args := [d] }
  | _ => none }
def FnSpineSinceTwiceWrongFalsely : Prop := fnSpineSinceTwiceRow.holds Try.pinned (OpenSpec.ofChange fnSpineSinceTwiceWrong)

/-- 'laws.FnSpineNot': WHATEVER THE INPUT: true; the input reads as it did. -/
def fnSpineNotSpec : ChangeSpec := { name := "fnSpineNot", fn := fun _ => fun
  | [d] => { results := [.lit (.bool true)], args := [d] }
  | _ => none }
def fnSpineNotRow : OpenClaim := { program := "ytkdendlgaaimbaa", sum := "55781d6954128d3095716cfe3489fd53af986fb60685f95e6af6087cb6d9c41d", func := "loop.example/tideline/laws.FnSpineNot", spec := "fnSpineNot", inPlace := ["internal/reflectlite.ValueOf", "internal/reflectlite.Swapper", "(internal/reflectlite.Value).Len"], unfollowed := true, recurses := true, plainKeys := false, apart := false }
def FnSpineNotSaid : Prop := fnSpineNotRow.holds Try.pinned (OpenSpec.ofChange fnSpineNotSpec)

/-- ITS FALSE NEIGHBOUR: 'it returns false'. Refute it at one input. -/
def fnSpineNotWrong : ChangeSpec := { name := "fnSpineNot", fn := fun _ => fun
  | [d] => { results := [.lit (.bool false)], args := [d] }
  | _ => none }
def FnSpineNotWrongFalsely : Prop := fnSpineNotRow.holds Try.pinned (OpenSpec.ofChange fnSpineNotWrong)

/-- 'laws.FnSpineAll': WHATEVER THE INPUT: true; the input reads as it did. -/
def fnSpineAllSpec : ChangeSpec := { name := "fnSpineAll", fn := fun _ => fun
  | [d] => { results := [.lit (.bool true)], args := [d] }
  | _ => none }
def fnSpineAllRow : OpenClaim := { program := "ytkdendlgaaimbaa", sum := "55781d6954128d3095716cfe3489fd53af986fb60685f95e6af6087cb6d9c41d", func := "loop.example/tideline/laws.FnSpineAll", spec := "fnSpineAll", inPlace := ["internal/reflectlite.ValueOf", "internal/reflectlite.Swapper", "(internal/reflectlite.Value).Len"], unfollowed := true, recurses := true, plainKeys := false, apart := false }
def FnSpineAllSaid : Prop := fnSpineAllRow.holds Try.pinned (OpenSpec.ofChange fnSpineAllSpec)

/-- ITS FALSE NEIGHBOUR: 'it returns false'. Refute it at one input. -/
def fnSpineAllWrong : ChangeSpec := { name := "fnSpineAll", fn := fun _ => fun
  | [d] => { results := [.lit (.bool false)], args := [d] }
  | _ => none }
def FnSpineAllWrongFalsely : Prop := fnSpineAllRow.holds Try.pinned (OpenSpec.ofChange fnSpineAllWrong)

/-- 'laws.FnSpineLess': WHATEVER THE INPUT: true; the input reads as it did. -/
def fnSpineLessSpec : ChangeSpec := { name := "fnSpineLess", fn := fun _ => fun
  | [d] => { results := [.lit (.bool true)], args := [d] }
  | _ => none }
def fnSpineLessRow : OpenClaim := { program := "ytkdendlgaaimbaa", sum := "55781d6954128d3095716cfe3489fd53af986fb60685f95e6af6087cb6d9c41d", func := "loop.example/tideline/laws.FnSpineLess", spec := "fnSpineLess", inPlace := ["internal/reflectlite.ValueOf", "internal/reflectlite.Swapper", "(internal/reflectlite.Value).Len"], unfollowed := true, recurses := true, plainKeys := false, apart := false }
def FnSpineLessSaid : Prop := fnSpineLessRow.holds Try.pinned (OpenSpec.ofChange fnSpineLessSpec)

/-- ITS FALSE NEIGHBOUR: 'it returns false'. Refute it at one input. -/
def fnSpineLessWrong : ChangeSpec := { name := "fnSpineLess", fn := fun _ => fun
  | [d] => { results := [.lit (.bool false)], args := [d] }
  | _ => none }
def FnSpineLessWrongFalsely : Prop := fnSpineLessRow.holds Try.pinned (OpenSpec.ofChange fnSpineLessWrong)

/-- 'laws.FnPlanSetOk': WHATEVER THE INPUT: true; the input reads as it did. -/
def fnPlanSetOkSpec : ChangeSpec := { name := "fnPlanSetOk", fn := fun _ => fun
  | [d] => { results := [.lit (.bool true)], args := [d] }
  | _ => none }
def fnPlanSetOkRow : OpenClaim := { program := "ytkdendlgaaimbaa", sum := "55781d6954128d3095716cfe3489fd53af986fb60685f95e6af6087cb6d9c41d", func := "loop.example/tideline/laws.FnPlanSetOk", spec := "fnPlanSetOk", inPlace := ["internal/reflectlite.ValueOf", "internal/reflectlite.Swapper", "(internal/reflectlite.Value).Len"], unfollowed := true, recurses := true, plainKeys := false, apart := false }
def FnPlanSetOkSaid : Prop := fnPlanSetOkRow.holds Try.pinned (OpenSpec.ofChange fnPlanSetOkSpec)

/-- ITS FALSE NEIGHBOUR: 'it returns false'. Refute it at one input. -/
def fnPlanSetOkWrong : ChangeSpec := { name := "fnPlanSetOk", fn := fun _ => fun
  | [d] => { results := [.lit (.bool false)], args := [d] }
  | _ => none }
def FnPlanSetOkWrongFalsely : Prop := fnPlanSetOkRow.holds Try.pinned (OpenSpec.ofChange fnPlanSetOkWrong)

/-- 'laws.FnSpineSince': WHATEVER THE INPUT: true; the input reads as it did. -/
def fnSpineSinceSpec : ChangeSpec := { name := "fnSpineSince", fn := fun _ => fun
  | [d] => { results := [.lit (.bool true)], args := [d] }
  | _ => none }
def fnSpineSinceRow : OpenClaim := { program := "ytkdendlgaaimbaa", sum := "55781d6954128d3095716cfe3489fd53af986fb60685f95e6af6087cb6d9c41d", func := "loop.example/tideline/laws.FnSpineSince", spec := "fnSpineSince", inPlace := ["internal/reflectlite.ValueOf", "internal/reflectlite.Swapper", "(internal/reflectlite.Value).Len"], unfollowed := true, recurses := true, plainKeys := false, apart := false }
def FnSpineSinceSaid : Prop := fnSpineSinceRow.holds Try.pinned (OpenSpec.ofChange fnSpineSinceSpec)

/-- ITS FALSE NEIGHBOUR: 'it returns false'. Refute it at one input. -/
def fnSpineSinceWrong : ChangeSpec := { name := "fnSpineSince", fn := fun _ => fun
  | [d] => { results := [.lit (.bool false)], args := [d] }
  | _ => none }
def FnSpineSinceWrongFalsely : Prop := fnSpineSinceRow.holds Try.pinned (OpenSpec.ofChange fnSpineSinceWrong)

/-- 'laws.FnSpineFew': WHATEVER THE INPUT: true; the input reads as it did. -/
def fnSpineFewSpec : ChangeSpec := { name := "fnSpineFew", fn := fun _ => fun
  | [d] => { results := [.lit (.bool true)], args := [d] }
  | _ => none }
def fnSpineFewRow : OpenClaim := { program := "ytkdendlgaaimbaa", sum := "55781d6954128d3095716cfe3489fd53af986fb60685f95e6af6087cb6d9c41d", func := "loop.example/tideline/laws.FnSpineFew", spec := "fnSpineFew", inPlace := ["internal/reflectlite.ValueOf", "internal/reflectlite.Swapper", "(internal/reflectlite.Value).Len"], unfollowed := true, recurses := true, plainKeys := false, apart := false }
def FnSpineFewSaid : Prop := fnSpineFewRow.holds Try.pinned (OpenSpec.ofChange fnSpineFewSpec)

/-- ITS FALSE NEIGHBOUR: 'it returns false'. Refute it at one input. -/
def fnSpineFewWrong : ChangeSpec := { name := "fnSpineFew", fn := fun _ => fun
  | [d] => { results := [.lit (.bool false)], args := [d] }
  | _ => none }
def FnSpineFewWrongFalsely : Prop := fnSpineFewRow.holds Try.pinned (OpenSpec.ofChange fnSpineFewWrong)

/-- 'laws.FnExactSpineIn': WHATEVER THE INPUT: true; the input reads as it did. -/
def fnExactSpineInSpec : ChangeSpec := { name := "fnExactSpineIn", fn := fun _ => fun
  | [d1, d2] => { results := [.lit (.bool true)], args := [d1, d2] }
  | _ => none }
def fnExactSpineInRow : OpenClaim := { program := "ytkdendlgaaimbaa", sum := "55781d6954128d3095716cfe3489fd53af986fb60685f95e6af6087cb6d9c41d", func := "loop.example/tideline/laws.FnExactSpineIn", spec := "fnExactSpineIn", inPlace := ["internal/reflectlite.ValueOf", "internal/reflectlite.Swapper", "(internal/reflectlite.Value).Len"], unfollowed := true, recurses := true, plainKeys := false, apart := false }
def FnExactSpineInSaid : Prop := fnExactSpineInRow.holds Try.pinned (OpenSpec.ofChange fnExactSpineInSpec)

/-- ITS FALSE NEIGHBOUR: 'it returns false'. Refute it at one input. -/
def fnExactSpineInWrong : ChangeSpec := { name := "fnExactSpineIn", fn := fun _ => fun
  | [d1, d2] => { results := [.lit (.bool false)], args := [d1, d2] }
  | _ => none }
def FnExactSpineInWrongFalsely : Prop := fnExactSpineInRow.holds Try.pinned (OpenSpec.ofChange fnExactSpineInWrong)

/-- 'laws.FnSpineEmpty': WHATEVER THE INPUT: true; the input reads as it did. -/
def fnSpineEmptySpec : ChangeSpec := { name := "fnSpineEmpty", fn := fun _ => fun
  | [d] => { results := [.lit (.bool true)], args := [d] }
  | _ => none }
def fnSpineEmptyRow : OpenClaim := { program := "ytkdendlgaaimbaa", sum := "55781d6954128d3095716cfe3489fd53af986fb60685f95e6af6087cb6d9c41d", func := "loop.example/tideline/laws.FnSpineEmpty", spec := "fnSpineEmpty", inPlace := ["internal/reflectlite.ValueOf", "internal/reflectlite.Swapper", "(internal/reflectlite.Value).Len"], unfollowed := true, recurses := true, plainKeys := false, apart := false }
def FnSpineEmptySaid : Prop := fnSpineEmptyRow.holds Try.pinned (OpenSpec.ofChange fnSpineEmptySpec)

/-- ITS FALSE NEIGHBOUR: 'it returns false'. Refute it at one input. -/
def fnSpineEmptyWrong : ChangeSpec := { name := "fnSpineEmpty", fn := fun _ => fun
  | [d] => { results := [.lit (.bool false)], args := [d] }
  | _ => none }
def FnSpineEmptyWrongFalsely : Prop := fnSpineEmptyRow.holds Try.pinned (OpenSpec.ofChange fnSpineEmptyWrong)

/-- 'laws.FnExactPlanSet': WHATEVER THE INPUT: true; the input reads as it did. -/
def fnExactPlanSetSpec : ChangeSpec := { name := "fnExactPlanSet", fn := fun _ => fun
  | [d1, d2] => { results := [.lit (.bool true)], args := [d1, d2] }
  | _ => none }
def fnExactPlanSetRow : OpenClaim := { program := "ytkdendlgaaimbaa", sum := "55781d6954128d3095716cfe3489fd53af986fb60685f95e6af6087cb6d9c41d", func := "loop.example/tideline/laws.FnExactPlanSet", spec := "fnExactPlanSet", inPlace := ["internal/reflectlite.ValueOf", "internal/reflectlite.Swapper", "(internal/reflectlite.Value).Len"], unfollowed := true, recurses := true, loops := true, plainKeys := false, apart := false }
def FnExactPlanSetSaid : Prop := fnExactPlanSetRow.holds Try.pinned (OpenSpec.ofChange fnExactPlanSetSpec)

/-- ITS FALSE NEIGHBOUR: 'it returns false'. Refute it at one input. -/
def fnExactPlanSetWrong : ChangeSpec := { name := "fnExactPlanSet", fn := fun _ => fun
  | [d1, d2] => { results := [.lit (.bool false)], args := [d1, d2] }
  | _ => none }
def FnExactPlanSetWrongFalsely : Prop := fnExactPlanSetRow.holds Try.pinned (OpenSpec.ofChange fnExactPlanSetWrong)

/- THE SECOND FORM. 'bulk': how many values and letters a reading holds, each counted each time it is reached (what is shared counts as often as it is met; a slice's spare places count too). A statement '..UptoSaid' is the law's where the arguments, and the package variables that the reading takes, are together of bulk at most 1048576: NARROWER than '..Said'. Prove '..Said' where nothing that the law and all that it calls make is longer than what came in: it says more and counts as full. Else prove '..UptoSaid'. A law counts once. -/
mutual
def uptoBulk {H : Type} : DataW H → Nat
  | .lit (.string bytes) => bytes.length + 1
  | .lit _ => 1
  | .nil => 1
  | .ptr d => uptoBulk d + 1
  | .slice elems spare => uptoBulkAll elems + uptoBulkAll spare + 1
  | .agg parts => uptoBulkAll parts + 1
  | .iface _ d => uptoBulk d + 1
  | .map entries => uptoBulkEntries entries + 1
  | .held _ => 1
def uptoBulkAll {H : Type} : List (DataW H) → Nat
  | [] => 0
  | d :: r => uptoBulk d + uptoBulkAll r
def uptoBulkEntries {H : Type} : List (Lit × DataW H) → Nat
  | [] => 0
  | x :: r => uptoBulkEntry x + uptoBulkEntries r
def uptoBulkEntry {H : Type} : Lit × DataW H → Nat
  | (.string bytes, d) => bytes.length + uptoBulk d + 1
  | (_, d) => uptoBulk d + 1
 end
def uptoSmall : (H : Type) → List (DataW H) → Bool := fun _ ds => decide (uptoBulkAll ds ≤ 1048576)
def OpenSpec.upto (s : _root_.Go.ChangeSpec) : _root_.Go.OpenSpec := { _root_.Go.OpenSpec.ofChange s with cond := some uptoSmall }

/-- 'laws.FnSpineOk', WHERE WHAT IT READS IS OF BULK AT MOST 1048576: true; the input reads as it did. -/
def fnSpineOkUptoRow : OpenClaim := { program := "ytkdendlgaaimbaa", sum := "55781d6954128d3095716cfe3489fd53af986fb60685f95e6af6087cb6d9c41d", func := "loop.example/tideline/laws.FnSpineOk", spec := "fnSpineOk", inPlace := ["internal/reflectlite.ValueOf", "internal/reflectlite.Swapper", "(internal/reflectlite.Value).Len"], unfollowed := true, recurses := true, plainKeys := false, apart := false, narrowed := true }
def FnSpineOkUptoSaid : Prop := fnSpineOkUptoRow.holds Try.pinned (OpenSpec.upto fnSpineOkSpec)

/-- 'laws.FnSpineSinceTwice', WHERE WHAT IT READS IS OF BULK AT MOST 1048576: true; the input reads as it did. -/
def fnSpineSinceTwiceUptoRow : OpenClaim := { program := "ytkdendlgaaimbaa", sum := "55781d6954128d3095716cfe3489fd53af986fb60685f95e6af6087cb6d9c41d", func := "loop.example/tideline/laws.FnSpineSinceTwice", spec := "fnSpineSinceTwice", plainKeys := false, apart := false, narrowed := true }
def FnSpineSinceTwiceUptoSaid : Prop := fnSpineSinceTwiceUptoRow.holds Try.pinned (OpenSpec.upto fnSpineSinceTwiceSpec)

/-- 'laws.FnSpineNot', WHERE WHAT IT READS IS OF BULK AT MOST 1048576: true; the input reads as it did. -/
def fnSpineNotUptoRow : OpenClaim := { program := "ytkdendlgaaimbaa", sum := "55781d6954128d3095716cfe3489fd53af986fb60685f95e6af6087cb6d9c41d", func := "loop.example/tideline/laws.FnSpineNot", spec := "fnSpineNot", inPlace := ["internal/reflectlite.ValueOf", "internal/reflectlite.Swapper", "(internal/reflectlite.Value).Len"], unfollowed := true, recurses := true, plainKeys := false, apart := false, narrowed := true }
def FnSpineNotUptoSaid : Prop := fnSpineNotUptoRow.holds Try.pinned (OpenSpec.upto fnSpineNotSpec)

/-- 'laws.FnSpineAll', WHERE WHAT IT READS IS OF BULK AT MOST 1048576: true; the input reads as it did. -/
def fnSpineAllUptoRow : OpenClaim := { program := "ytkdendlgaaimbaa", sum := "55781d6954128d3095716cfe3489fd53af986fb60685f95e6af6087cb6d9c41d", func := "loop.example/tideline/laws.FnSpineAll", spec := "fnSpineAll", inPlace := ["internal/reflectlite.ValueOf", "internal/reflectlite.Swapper", "(internal/reflectlite.Value).Len"], unfollowed := true, recurses := true, plainKeys := false, apart := false, narrowed := true }
def FnSpineAllUptoSaid : Prop := fnSpineAllUptoRow.holds Try.pinned (OpenSpec.upto fnSpineAllSpec)

/-- 'laws.FnSpineLess', WHERE WHAT IT READS IS OF BULK AT MOST 1048576: true; the input reads as it did. -/
def fnSpineLessUptoRow : OpenClaim := { program := "ytkdendlgaaimbaa", sum := "55781d6954128d3095716cfe3489fd53af986fb60685f95e6af6087cb6d9c41d", func := "loop.example/tideline/laws.FnSpineLess", spec := "fnSpineLess", inPlace := ["internal/reflectlite.ValueOf", "internal/reflectlite.Swapper", "(internal/reflectlite.Value).Len"], unfollowed := true, recurses := true, plainKeys := false, apart := false, narrowed := true }
def FnSpineLessUptoSaid : Prop := fnSpineLessUptoRow.holds Try.pinned (OpenSpec.upto fnSpineLessSpec)

/-- 'laws.FnPlanSetOk', WHERE WHAT IT READS IS OF BULK AT MOST 1048576: true; the input reads as it did. -/
def fnPlanSetOkUptoRow : OpenClaim := { program := "ytkdendlgaaimbaa", sum := "55781d6954128d3095716cfe3489fd53af986fb60685f95e6af6087cb6d9c41d", func := "loop.example/tideline/laws.FnPlanSetOk", spec := "fnPlanSetOk", inPlace := ["internal/reflectlite.ValueOf", "internal/reflectlite.Swapper", "(internal/reflectlite.Value).Len"], unfollowed := true, recurses := true, plainKeys := false, apart := false, narrowed := true }
def FnPlanSetOkUptoSaid : Prop := fnPlanSetOkUptoRow.holds Try.pinned (OpenSpec.upto fnPlanSetOkSpec)

/-- 'laws.FnSpineSince', WHERE WHAT IT READS IS OF BULK AT MOST 1048576: true; the input reads as it did. -/
def fnSpineSinceUptoRow : OpenClaim := { program := "ytkdendlgaaimbaa", sum := "55781d6954128d3095716cfe3489fd53af986fb60685f95e6af6087cb6d9c41d", func := "loop.example/tideline/laws.FnSpineSince", spec := "fnSpineSince", inPlace := ["internal/reflectlite.ValueOf", "internal/reflectlite.Swapper", "(internal/reflectlite.Value).Len"], unfollowed := true, recurses := true, plainKeys := false, apart := false, narrowed := true }
def FnSpineSinceUptoSaid : Prop := fnSpineSinceUptoRow.holds Try.pinned (OpenSpec.upto fnSpineSinceSpec)

/-- 'laws.FnSpineFew', WHERE WHAT IT READS IS OF BULK AT MOST 1048576: true; the input reads as it did. -/
def fnSpineFewUptoRow : OpenClaim := { program := "ytkdendlgaaimbaa", sum := "55781d6954128d3095716cfe3489fd53af986fb60685f95e6af6087cb6d9c41d", func := "loop.example/tideline/laws.FnSpineFew", spec := "fnSpineFew", inPlace := ["internal/reflectlite.ValueOf", "internal/reflectlite.Swapper", "(internal/reflectlite.Value).Len"], unfollowed := true, recurses := true, plainKeys := false, apart := false, narrowed := true }
def FnSpineFewUptoSaid : Prop := fnSpineFewUptoRow.holds Try.pinned (OpenSpec.upto fnSpineFewSpec)

/-- 'laws.FnExactSpineIn', WHERE WHAT IT READS IS OF BULK AT MOST 1048576: true; the input reads as it did. -/
def fnExactSpineInUptoRow : OpenClaim := { program := "ytkdendlgaaimbaa", sum := "55781d6954128d3095716cfe3489fd53af986fb60685f95e6af6087cb6d9c41d", func := "loop.example/tideline/laws.FnExactSpineIn", spec := "fnExactSpineIn", inPlace := ["internal/reflectlite.ValueOf", "internal/reflectlite.Swapper", "(internal/reflectlite.Value).Len"], unfollowed := true, recurses := true, plainKeys := false, apart := false, narrowed := true }
def FnExactSpineInUptoSaid : Prop := fnExactSpineInUptoRow.holds Try.pinned (OpenSpec.upto fnExactSpineInSpec)

/-- 'laws.FnSpineEmpty', WHERE WHAT IT READS IS OF BULK AT MOST 1048576: true; the input reads as it did. -/
def fnSpineEmptyUptoRow : OpenClaim := { program := "ytkdendlgaaimbaa", sum := "55781d6954128d3095716cfe3489fd53af986fb60685f95e6af6087cb6d9c41d", func := "loop.example/tideline/laws.FnSpineEmpty", spec := "fnSpineEmpty", inPlace := ["internal/reflectlite.ValueOf", "internal/reflectlite.Swapper", "(internal/reflectlite.Value).Len"], unfollowed := true, recurses := true, plainKeys := false, apart := false, narrowed := true }
def FnSpineEmptyUptoSaid : Prop := fnSpineEmptyUptoRow.holds Try.pinned (OpenSpec.upto fnSpineEmptySpec)

/-- 'laws.FnExactPlanSet', WHERE WHAT IT READS IS OF BULK AT MOST 1048576: true; the input reads as it did. -/
def fnExactPlanSetUptoRow : OpenClaim := { program := "ytkdendlgaaimbaa", sum := "55781d6954128d3095716cfe3489fd53af986fb60685f95e6af6087cb6d9c41d", func := "loop.example/tideline/laws.FnExactPlanSet", spec := "fnExactPlanSet", inPlace := ["internal/reflectlite.ValueOf", "internal/reflectlite.Swapper", "(internal/reflectlite.Value).Len"], unfollowed := true, recurses := true, loops := true, plainKeys := false, apart := false, narrowed := true }
def FnExactPlanSetUptoSaid : Prop := fnExactPlanSetUptoRow.holds Try.pinned (OpenSpec.upto fnExactPlanSetSpec)

end Rows
end Go.Proofs.Ytkdendlgaaimbaa
