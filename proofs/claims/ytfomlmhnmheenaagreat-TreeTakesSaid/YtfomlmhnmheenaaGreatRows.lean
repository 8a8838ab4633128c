/-
  No cell of these rows narrows 'for every input' (looked for: loops, veiled, ifaces, maps, wideKeys, modest, calm, conditions, laid).
  DERIVED. THE GIVEN ROWS OF THIS SEAT. 5 by the template 'for every input the law returns true; each argument reads behind the call as it read before'; 0 by the template 'total and deterministic' (their statements: YtfomlmhnmheenaaGreatTotals.lean).
  GIVEN WITH THE SEED: the statements are not yours to turn. If you find one false, say at which input.
  Laid BY PROGRAM, IN A SANDBOX (cutbox-rows.mjs): the forced cells as the released guide's own fill.sh prints them over the translation d041bb41507aeb52… (all of the seat's roots in one cut). By AI agents, Wed Nov 11 2026. No macro, syntax, notation, axiom, sorry.
-/
import Derived.Test.YtfomlmhnmheenaaGreatChecked
import GoSem.Claim
import GoSem.ClaimJoined
import GoSem.ClaimMapViews
import Derived.JoinedTies
import Derived.KernelRfl
namespace Go.Proofs.YtfomlmhnmheenaaGreat
/- THE CELL 'sum', in the pinned program and in every row, IS THE sha256 OF THE DUMP (.gsa) THAT YtfomlmhnmheenaaGreatProg.lean LOADS. Nothing in Lean hashes anything: it is a label: what it is worth is what the hold of that sum in a sandbox is worth. -/
noncomputable def Tryz.pinned : Pinned := { name := "ytfomlmhnmheenaagreat", sum := "d041bb41507aeb528fbc62171ddd3fc2f44617e5317ff0f9e1a635ab5f0151f8", checked := Tryz.checked }
namespace Rows
def none {H : Type} : Left H := { results := [], args := [] }

/-- 'hedgerowlaw12.TreeTakes': WHATEVER THE INPUT: true; the input reads as it did. -/
def treeTakesSpec : ChangeSpec := { name := "treeTakes", fn := fun _ => fun
  | [d1, d2, d3, d4, d5] => { results := [.lit (.bool true)], args := [d1, d2, d3, d4, d5] }
  | _ => none }
def treeTakesRow : OpenClaim := { program := "ytfomlmhnmheenaagreat", sum := "d041bb41507aeb528fbc62171ddd3fc2f44617e5317ff0f9e1a635ab5f0151f8", func := "hedgerow/hedgerowlaw12.TreeTakes", spec := "treeTakes", inPlace := ["slices.overlaps[hedgerow/api.Put]"], unfollowed := true, recurses := true, apart := false }
def TreeTakesSaid : Prop := treeTakesRow.holds Tryz.pinned (OpenSpec.ofChange treeTakesSpec)

/-- ITS FALSE NEIGHBOUR: 'it returns false'. Refute it at one input. -/
def treeTakesWrong : ChangeSpec := { name := "treeTakes", fn := fun _ => fun
  | [d1, d2, d3, d4, d5] => { results := [.lit (.bool false)], args := [d1, d2, d3, d4, d5] }
  | _ => none }
def TreeTakesWrongFalsely : Prop := treeTakesRow.holds Tryz.pinned (OpenSpec.ofChange treeTakesWrong)

/-- 'hedgerowlaw12.TreeReads': WHATEVER THE INPUT: true; the input reads as it did. -/
def treeReadsSpec : ChangeSpec := { name := "treeReads", fn := fun _ => fun
  | [d1, d2, d3, d4, d5] => { results := [.lit (.bool true)], args := [d1, d2, d3, d4, d5] }
  | _ => none }
def treeReadsRow : OpenClaim := { program := "ytfomlmhnmheenaagreat", sum := "d041bb41507aeb528fbc62171ddd3fc2f44617e5317ff0f9e1a635ab5f0151f8", func := "hedgerow/hedgerowlaw12.TreeReads", spec := "treeReads", inPlace := ["slices.overlaps[hedgerow/api.Put]"], unfollowed := true, recurses := true, apart := false }
def TreeReadsSaid : Prop := treeReadsRow.holds Tryz.pinned (OpenSpec.ofChange treeReadsSpec)

/-- ITS FALSE NEIGHBOUR: 'it returns false'. Refute it at one input. -/
def treeReadsWrong : ChangeSpec := { name := "treeReads", fn := fun _ => fun
  | [d1, d2, d3, d4, d5] => { results := [.lit (.bool false)], args := [d1, d2, d3, d4, d5] }
  | _ => none }
def TreeReadsWrongFalsely : Prop := treeReadsRow.holds Tryz.pinned (OpenSpec.ofChange treeReadsWrong)

/-- 'hedgerowlaw12.TreeBuilds': WHATEVER THE INPUT: true; the input reads as it did. -/
def treeBuildsSpec : ChangeSpec := { name := "treeBuilds", fn := fun _ => fun
  | [d1, d2] => { results := [.lit (.bool true)], args := [d1, d2] }
  | _ => none }
def treeBuildsRow : OpenClaim := { program := "ytfomlmhnmheenaagreat", sum := "d041bb41507aeb528fbc62171ddd3fc2f44617e5317ff0f9e1a635ab5f0151f8", func := "hedgerow/hedgerowlaw12.TreeBuilds", spec := "treeBuilds", inPlace := ["slices.overlaps[hedgerow/api.Put]"], unfollowed := true, recurses := true, apart := false }
def TreeBuildsSaid : Prop := treeBuildsRow.holds Tryz.pinned (OpenSpec.ofChange treeBuildsSpec)

/-- ITS FALSE NEIGHBOUR: 'it returns false'. Refute it at one input. -/
def treeBuildsWrong : ChangeSpec := { name := "treeBuilds", fn := fun _ => fun
  | [d1, d2] => { results := [.lit (.bool false)], args := [d1, d2] }
  | _ => none }
def TreeBuildsWrongFalsely : Prop := treeBuildsRow.holds Tryz.pinned (OpenSpec.ofChange treeBuildsWrong)

/-- 'hedgerowlaw12.TreeFrom': WHATEVER THE INPUT: true; the input reads as it did. -/
def treeFromSpec : ChangeSpec := { name := "treeFrom", fn := fun _ => fun
  | [d1, d2, d3, d4, d5] => { results := [.lit (.bool true)], args := [d1, d2, d3, d4, d5] }
  | _ => none }
def treeFromRow : OpenClaim := { program := "ytfomlmhnmheenaagreat", sum := "d041bb41507aeb528fbc62171ddd3fc2f44617e5317ff0f9e1a635ab5f0151f8", func := "hedgerow/hedgerowlaw12.TreeFrom", spec := "treeFrom", inPlace := ["slices.overlaps[hedgerow/api.Put]"], unfollowed := true, recurses := true, apart := false }
def TreeFromSaid : Prop := treeFromRow.holds Tryz.pinned (OpenSpec.ofChange treeFromSpec)

/-- ITS FALSE NEIGHBOUR: 'it returns false'. Refute it at one input. -/
def treeFromWrong : ChangeSpec := { name := "treeFrom", fn := fun _ => fun
  | [d1, d2, d3, d4, d5] => { results := [.lit (.bool false)], args := [d1, d2, d3, d4, d5] }
  | _ => none }
def TreeFromWrongFalsely : Prop := treeFromRow.holds Tryz.pinned (OpenSpec.ofChange treeFromWrong)

/-- 'hedgerowlaw12.TreeHolds': WHATEVER THE INPUT: true; the input reads as it did. -/
def treeHoldsSpec : ChangeSpec := { name := "treeHolds", fn := fun _ => fun
  | [d1, d2, d3, d4, d5] => { results := [.lit (.bool true)], args := [d1, d2, d3, d4, d5] }
  | _ => none }
def treeHoldsRow : OpenClaim := { program := "ytfomlmhnmheenaagreat", sum := "d041bb41507aeb528fbc62171ddd3fc2f44617e5317ff0f9e1a635ab5f0151f8", func := "hedgerow/hedgerowlaw12.TreeHolds", spec := "treeHolds", inPlace := ["slices.overlaps[hedgerow/api.Put]"], unfollowed := true, recurses := true, apart := false }
def TreeHoldsSaid : Prop := treeHoldsRow.holds Tryz.pinned (OpenSpec.ofChange treeHoldsSpec)

/-- ITS FALSE NEIGHBOUR: 'it returns false'. Refute it at one input. -/
def treeHoldsWrong : ChangeSpec := { name := "treeHolds", fn := fun _ => fun
  | [d1, d2, d3, d4, d5] => { results := [.lit (.bool false)], args := [d1, d2, d3, d4, d5] }
  | _ => none }
def TreeHoldsWrongFalsely : Prop := treeHoldsRow.holds Tryz.pinned (OpenSpec.ofChange treeHoldsWrong)

/- THE SECOND FORM. 'bulk': how many values and letters a reading holds, each counted each time it is reached (what is shared counts as often as it is met; a slice's spare places count too). A statement '..UptoSaid' is the law's where the arguments, and the package variables that the reading takes, are together of bulk at most 1048576: NARROWER than '..Said'. Prove '..Said' where nothing that the law and all that it calls make is longer than what came in: it says more and counts as full. Else prove '..UptoSaid'. A law counts once. -/
mutual
def uptoBulk {H : Type} : DataW H → Nat
  | .lit (.string bytes) => bytes.length + 1
  | .lit _ => 1
  | .nil => 1
  | .ptr d => uptoBulk d + 1
  | .slice elems spare => uptoBulkAll elems + uptoBulkAll spare + 1
  | .agg parts => uptoBulkAll parts + 1
  | .iface _ d => uptoBulk d + 1
  | .map entries => uptoBulkEntries entries + 1
  | .held _ => 1
def uptoBulkAll {H : Type} : List (DataW H) → Nat
  | [] => 0
  | d :: r => uptoBulk d + uptoBulkAll r
def uptoBulkEntries {H : Type} : List (Lit × DataW H) → Nat
  | [] => 0
  | x :: r => uptoBulkEntry x + uptoBulkEntries r
def uptoBulkEntry {H : Type} : Lit × DataW H → Nat
  | (.string bytes, d) => bytes.length + uptoBulk d + 1
  | (_, d) => uptoBulk d + 1
 end
def uptoSmall : (H : Type) → List (DataW H) → Bool := fun _ ds => decide (uptoBulkAll ds ≤ 1048576)
def OpenSpec.upto (s : _root_.Go.ChangeSpec) : _root_.Go.OpenSpec := { _root_.Go.OpenSpec.ofChange s with cond := some uptoSmall }

/-- 'hedgerowlaw12.TreeTakes', WHERE WHAT IT READS IS OF BULK AT MOST 1048576: true; the input reads as it did. -/
def treeTakesUptoRow : OpenClaim := { program := "ytfomlmhnmheenaagreat", sum := "d041bb41507aeb528fbc62171ddd3fc2f44617e5317ff0f9e1a635ab5f0151f8", func := "hedgerow/hedgerowlaw12.TreeTakes", spec := "treeTakes", inPlace := ["slices.overlaps[hedgerow/api.Put]"], unfollowed := true, recurses := true, apart := false, narrowed := true }
def TreeTakesUptoSaid : Prop := treeTakesUptoRow.holds Tryz.pinned (OpenSpec.upto treeTakesSpec)

/-- 'hedgerowlaw12.TreeReads', WHERE WHAT IT READS IS OF BULK AT MOST 1048576: true; the input reads as it did. -/
def treeReadsUptoRow : OpenClaim := { program := "ytfomlmhnmheenaagreat", sum := "d041bb41507aeb528fbc62171ddd3fc2f44617e5317ff0f9e1a635ab5f0151f8", func := "hedgerow/hedgerowlaw12.TreeReads", spec := "treeReads", inPlace := ["slices.overlaps[hedgerow/api.Put]"], unfollowed := true, recurses := true, apart := false, narrowed := true }
def TreeReadsUptoSaid : Prop := treeReadsUptoRow.holds Tryz.pinned (OpenSpec.upto treeReadsSpec)

/-- 'hedgerowlaw12.TreeBuilds', WHERE WHAT IT READS IS OF BULK AT MOST 1048576: true; the input reads as it did. -/
def treeBuildsUptoRow : OpenClaim := { program := "ytfomlmhnmheenaagreat", sum := "d041bb41507aeb528fbc62171ddd3fc2f44617e5317ff0f9e1a635ab5f0151f8", func := "hedgerow/hedgerowlaw12.TreeBuilds", spec := "treeBuilds", inPlace := ["slices.overlaps[hedgerow/api.Put]"], unfollowed := true, recurses := true, apart := false, narrowed := true }
def TreeBuildsUptoSaid : Prop := treeBuildsUptoRow.holds Tryz.pinned (OpenSpec.upto treeBuildsSpec)

/-- 'hedgerowlaw12.TreeFrom', WHERE WHAT IT READS IS OF BULK AT MOST 1048576: true; the input reads as it did. -/
def treeFromUptoRow : OpenClaim := { program := "ytfomlmhnmheenaagreat", sum := "d041bb41507aeb528fbc62171ddd3fc2f44617e5317ff0f9e1a635ab5f0151f8", func := "hedgerow/hedgerowlaw12.TreeFrom", spec := "treeFrom", inPlace := ["slices.overlaps[hedgerow/api.Put]"], unfollowed := true, recurses := true, apart := false, narrowed := true }
def TreeFromUptoSaid : Prop := treeFromUptoRow.holds Tryz.pinned (OpenSpec.upto treeFromSpec)

/-- 'hedgerowlaw12.TreeHolds', WHERE WHAT IT READS IS OF BULK AT MOST 1048576: true; the input reads as it did. -/
def treeHoldsUptoRow : OpenClaim := { program := "ytfomlmhnmheenaagreat", sum := "d041bb41507aeb528fbc62171ddd3fc2f44617e5317ff0f9e1a635ab5f0151f8", func := "hedgerow/hedgerowlaw12.TreeHolds", spec := "treeHolds", inPlace := ["slices.overlaps[hedgerow/api.Put]"], unfollowed := true, recurses := true, apart := false, narrowed := true }
def TreeHoldsUptoSaid : Prop := treeHoldsUptoRow.holds Tryz.pinned (OpenSpec.upto treeHoldsSpec)

end Rows
end Go.Proofs.YtfomlmhnmheenaaGreat
