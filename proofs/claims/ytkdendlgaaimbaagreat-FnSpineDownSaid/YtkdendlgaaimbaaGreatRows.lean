/-
  No cell of these rows narrows 'for every input' (looked for: loops, veiled, ifaces, maps, wideKeys, modest, calm, conditions, laid).
  DERIVED. THE GIVEN ROWS OF THIS SEAT. 3 by the template 'for every input the law returns true; each argument reads behind the call as it read before'; 0 by the template 'total and deterministic' (their statements: YtkdendlgaaimbaaGreatTotals.lean).
  GIVEN WITH THE SEED: the statements are not yours to turn. If you find one false, say at which input.
  Laid BY PROGRAM, IN A SANDBOX (cutbox-rows.mjs): the forced cells as the released guide's own fill.sh prints them over the translation 87077f1266656c89… (all of the seat's roots in one cut). By AI agents, Wed Nov 11 2026. No macro, syntax, notation, axiom, sorry.
-/
import Derived.Test.YtkdendlgaaimbaaGreatChecked
import GoSem.Claim
import GoSem.ClaimJoined
import GoSem.ClaimMapViews
import Derived.JoinedTies
import Derived.KernelRfl
namespace Go.Proofs.YtkdendlgaaimbaaGreat
/- THE CELL 'sum', in the pinned program and in every row, IS THE sha256 OF THE DUMP (.gsa) THAT YtkdendlgaaimbaaGreatProg.lean LOADS. Nothing in Lean hashes anything: it is a label: what it is worth is what the hold of that sum in a sandbox is worth. -/
noncomputable def Tryz.pinned : Pinned := { name := "ytkdendlgaaimbaagreat", sum := "87077f1266656c89cb9391b401a9843085c248f5abb6905cd73fd7c4f29327c5", checked := Tryz.checked }
namespace Rows
def none {H : Type} : Left H := { results := [], args := [] }

/-- 'laws.FnSpineIn': WHATEVER THE INPUT: true; the input reads as it did. -/
def fnSpineInSpec : ChangeSpec := { name := "fnSpineIn", fn := fun _ => fun
  | [d] => { results := [.lit (.bool true)], args := [d] }
  | _ => none }
def fnSpineInRow : OpenClaim := { program := "ytkdendlgaaimbaagreat", sum := "87077f1266656c89cb9391b401a9843085c248f5abb6905cd73fd7c4f29327c5", func := "loop.example/tideline/laws.FnSpineIn", spec := "fnSpineIn", inPlace := ["internal/reflectlite.ValueOf", "internal/reflectlite.Swapper", "(internal/reflectlite.Value).Len"], unfollowed := true, recurses := true, plainKeys := false, apart := false }
def FnSpineInSaid : Prop := fnSpineInRow.holds Tryz.pinned (OpenSpec.ofChange fnSpineInSpec)

/-- ITS FALSE NEIGHBOUR: 'it returns false'. Refute it at one input. -/
def fnSpineInWrong : ChangeSpec := { name := "fnSpineIn", fn := fun _ => fun
  | [d] => { results := [.lit (.bool false)], args := [d] }
  | _ => none }
def FnSpineInWrongFalsely : Prop := fnSpineInRow.holds Tryz.pinned (OpenSpec.ofChange fnSpineInWrong)

/-- 'laws.FnSpineDown': WHATEVER THE INPUT: true; the input reads as it did. -/
def fnSpineDownSpec : ChangeSpec := { name := "fnSpineDown", fn := fun _ => fun
  | [d] => { results := [.lit (.bool true)], args := [d] }
  | _ => none }
def fnSpineDownRow : OpenClaim := { program := "ytkdendlgaaimbaagreat", sum := "87077f1266656c89cb9391b401a9843085c248f5abb6905cd73fd7c4f29327c5", func := "loop.example/tideline/laws.FnSpineDown", spec := "fnSpineDown", inPlace := ["internal/reflectlite.ValueOf", "internal/reflectlite.Swapper", "(internal/reflectlite.Value).Len"], unfollowed := true, recurses := true, plainKeys := false, apart := false }
def FnSpineDownSaid : Prop := fnSpineDownRow.holds Tryz.pinned (OpenSpec.ofChange fnSpineDownSpec)

/-- ITS FALSE NEIGHBOUR: 'it returns false'. Refute it at one input. -/
def fnSpineDownWrong : ChangeSpec := { name := "fnSpineDown", fn := fun _ => fun
  | [d] => { results := [.lit (.bool false)], args := [d] }
  | _ => none }
def FnSpineDownWrongFalsely : Prop := fnSpineDownRow.holds Tryz.pinned (OpenSpec.ofChange fnSpineDownWrong)

/-- 'laws.FnSpineJoin': WHATEVER THE INPUT: true; the input reads as it did. -/
def fnSpineJoinSpec : ChangeSpec := { name := "fnSpineJoin", fn := fun _ => fun
  | [d] => { results := [.lit (.bool true)], args := [d] }
  | _ => none }
def fnSpineJoinRow : OpenClaim := { program := "ytkdendlgaaimbaagreat", sum := "87077f1266656c89cb9391b401a9843085c248f5abb6905cd73fd7c4f29327c5", func := "loop.example/tideline/laws.FnSpineJoin", spec := "fnSpineJoin", inPlace := ["internal/reflectlite.ValueOf", "internal/reflectlite.Swapper", "(internal/reflectlite.Value).Len"], unfollowed := true, recurses := true, plainKeys := false, apart := false }
def FnSpineJoinSaid : Prop := fnSpineJoinRow.holds Tryz.pinned (OpenSpec.ofChange fnSpineJoinSpec)

/-- ITS FALSE NEIGHBOUR: 'it returns false'. Refute it at one input. -/
def fnSpineJoinWrong : ChangeSpec := { name := "fnSpineJoin", fn := fun _ => fun
  | [d] => { results := [.lit (.bool false)], args := [d] }
  | _ => none }
def FnSpineJoinWrongFalsely : Prop := fnSpineJoinRow.holds Tryz.pinned (OpenSpec.ofChange fnSpineJoinWrong)

/- THE SECOND FORM. 'bulk': how many values and letters a reading holds, each counted each time it is reached (what is shared counts as often as it is met; a slice's spare places count too). A statement '..UptoSaid' is the law's where the arguments, and the package variables that the reading takes, are together of bulk at most 1048576: NARROWER than '..Said'. Prove '..Said' where nothing that the law and all that it calls make is longer than what came in: it says more and counts as full. Else prove '..UptoSaid'. A law counts once. -/
mutual
def uptoBulk {H : Type} : DataW H → Nat
  | .lit (.string bytes) => bytes.length + 1
  | .lit _ => 1
  | .nil => 1
  | .ptr d => uptoBulk d + 1
  | .slice elems spare => uptoBulkAll elems + uptoBulkAll spare + 1
  | .agg parts => uptoBulkAll parts + 1
  | .iface _ d => uptoBulk d + 1
  | .map entries => uptoBulkEntries entries + 1
  | .held _ => 1
def uptoBulkAll {H : Type} : List (DataW H) → Nat
  | [] => 0
  | d :: r => uptoBulk d + uptoBulkAll r
def uptoBulkEntries {H : Type} : List (Lit × DataW H) → Nat
  | [] => 0
  | x :: r => uptoBulkEntry x + uptoBulkEntries r
def uptoBulkEntry {H : Type} : Lit × DataW H → Nat
  | (.string bytes, d) => bytes.length + uptoBulk d + 1
  | (_, d) => uptoBulk d + 1
 end
def uptoSmall : (H : Type) → List (DataW H) → Bool := fun _ ds => decide (uptoBulkAll ds ≤ 1048576)
def OpenSpec.upto (s : _root_.Go.ChangeSpec) : _root_.Go.OpenSpec := { _root_.Go.OpenSpec.ofChange s with cond := some uptoSmall }

/-- 'laws.FnSpineIn', WHERE WHAT IT READS IS OF BULK AT MOST 1048576: true; the input reads as it did. -/
def fnSpineInUptoRow : OpenClaim := { program := "ytkdendlgaaimbaagreat", sum := "87077f1266656c89cb9391b401a9843085c248f5abb6905cd73fd7c4f29327c5", func := "loop.example/tideline/laws.FnSpineIn", spec := "fnSpineIn", inPlace := ["internal/reflectlite.ValueOf", "internal/reflectlite.Swapper", "(internal/reflectlite.Value).Len"], unfollowed := true, recurses := true, plainKeys := false, apart := false, narrowed := true }
def FnSpineInUptoSaid : Prop := fnSpineInUptoRow.holds Tryz.pinned (OpenSpec.upto fnSpineInSpec)

/-- 'laws.FnSpineDown', WHERE WHAT IT READS IS OF BULK AT MOST 1048576: true; the input reads as it did. -/
def fnSpineDownUptoRow : OpenClaim := { program := "ytkdendlgaaimbaagreat", sum := "87077f1266656c89cb9391b401a9843085c248f5abb6905cd73fd7c4f29327c5", func := "loop.example/tideline/laws.FnSpineDown", spec := "fnSpineDown", inPlace := ["internal/reflectlite.ValueOf", "internal/reflectlite.Swapper", "(internal/reflectlite.Value).Len"], unfollowed := true, recurses := true, plainKeys := false, apart := false, narrowed := true }
def FnSpineDownUptoSaid : Prop := fnSpineDownUptoRow.holds Tryz.pinned (OpenSpec.upto fnSpineDownSpec)

/-- 'laws.FnSpineJoin', WHERE WHAT IT READS IS OF BULK AT MOST 1048576: true; the input reads as it did. -/
def fnSpineJoinUptoRow : OpenClaim := { program := "ytkdendlgaaimbaagreat", sum := "87077f1266656c89cb9391b401a9843085c248f5abb6905cd73fd7c4f29327c5", func := "loop.example/tideline/laws.FnSpineJoin", spec := "fnSpineJoin", inPlace := ["internal/reflectlite.ValueOf", "internal/reflectlite.Swapper", "(internal/reflectlite.Value).Len"], unfollowed := true, recurses := true, plainKeys := false, apart := false, narrowed := true }
def FnSpineJoinUptoSaid : Prop := fnSpineJoinUptoRow.holds Tryz.pinned (OpenSpec.upto fnSpineJoinSpec)

end Rows
end Go.Proofs.YtkdendlgaaimbaaGreat
