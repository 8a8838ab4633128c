/-
  No cell of these rows narrows 'for every input' (looked for: loops, veiled, ifaces, maps, wideKeys, modest, calm, conditions, laid).
  DERIVED. THE GIVEN ROWS OF THIS SEAT. 7 by the template 'for every input the law returns true; each argument reads behind the call as it read before'; 0 by the template 'total and deterministic' (their statements: YtkeknmgnoceogaaGreatTotals.lean).
  GIVEN WITH THE SEED: the statements are not yours to turn. If you find one false, say at which input.
  Laid BY PROGRAM, IN A SANDBOX (cutbox-rows.mjs): the forced cells as the released guide's own fill.sh prints them over the translation 8cd92b8d31d37aa5… (all of the seat's roots in one cut). By AI agents, Wed Nov 11 2026. No macro, syntax, notation, axiom, sorry.
-/
import Derived.Test.YtkeknmgnoceogaaGreatChecked
import GoSem.Claim
import GoSem.ClaimJoined
import GoSem.ClaimMapViews
import Derived.JoinedTies
import Derived.KernelRfl
namespace Go.Proofs.YtkeknmgnoceogaaGreat
/- THE CELL 'sum', in the pinned program and in every row, IS THE sha256 OF THE DUMP (.gsa) THAT YtkeknmgnoceogaaGreatProg.lean LOADS. Nothing in Lean hashes anything: it is a label: what it is worth is what the hold of that sum in a sandbox is worth. -/
noncomputable def Tryz.pinned : Pinned := { name := "ytkeknmgnoceogaagreat", sum := "8cd92b8d31d37aa5186fcdc49a9daa55ef925af78bcd9104224b9a39a9e07141", checked := Tryz.checked }
namespace Rows
def none {H : Type} : Left H := { results := [], args := [] }

/-- 'hedgerowlaw16.DirLists': WHATEVER THE INPUT: true; the input reads as it did. -/
def dirListsSpec : ChangeSpec := { name := "dirLists", fn := fun _ => fun
  | [d1, d2] => { results := [.lit (.bool true)], args := [d1, d2] }
  | _ => none }
def dirListsRow : OpenClaim := { program := "ytkeknmgnoceogaagreat", sum := "8cd92b8d31d37aa5186fcdc49a9daa55ef925af78bcd9104224b9a39a9e07141", func := "hedgerow/hedgerowlaw16.DirLists", spec := "dirLists", inPlace := ["internal/bytealg.IndexByteString", "internal/bytealg.IndexString", "slices.overlaps[hedgerow/api.Put]"], unfollowed := true, recurses := true, named := ["internal/bytealg.MaxLen"], apart := false }
def DirListsSaid : Prop := dirListsRow.holds Tryz.pinned (OpenSpec.ofChange dirListsSpec)

/-- ITS FALSE NEIGHBOUR: 'it returns false'. Refute it at one input. -/
def dirListsWrong : ChangeSpec := { name := "dirLists", fn := fun _ => fun
  | [d1, d2] => { results := [.lit (.bool false)], args := [d1, d2] }
  | _ => none }
def DirListsWrongFalsely : Prop := dirListsRow.holds Tryz.pinned (OpenSpec.ofChange dirListsWrong)

/-- 'hedgerowlaw16.DirFinds': WHATEVER THE INPUT: true; the input reads as it did. -/
def dirFindsSpec : ChangeSpec := { name := "dirFinds", fn := fun _ => fun
  | [d1, d2] => { results := [.lit (.bool true)], args := [d1, d2] }
  | _ => none }
def dirFindsRow : OpenClaim := { program := "ytkeknmgnoceogaagreat", sum := "8cd92b8d31d37aa5186fcdc49a9daa55ef925af78bcd9104224b9a39a9e07141", func := "hedgerow/hedgerowlaw16.DirFinds", spec := "dirFinds", inPlace := ["internal/bytealg.IndexByteString", "internal/bytealg.IndexString", "slices.overlaps[hedgerow/api.Put]"], unfollowed := true, recurses := true, named := ["internal/bytealg.MaxLen"], apart := false }
def DirFindsSaid : Prop := dirFindsRow.holds Tryz.pinned (OpenSpec.ofChange dirFindsSpec)

/-- ITS FALSE NEIGHBOUR: 'it returns false'. Refute it at one input. -/
def dirFindsWrong : ChangeSpec := { name := "dirFinds", fn := fun _ => fun
  | [d1, d2] => { results := [.lit (.bool false)], args := [d1, d2] }
  | _ => none }
def DirFindsWrongFalsely : Prop := dirFindsRow.holds Tryz.pinned (OpenSpec.ofChange dirFindsWrong)

/-- 'hedgerowlaw16.DirPuts': WHATEVER THE INPUT: true; the input reads as it did. -/
def dirPutsSpec : ChangeSpec := { name := "dirPuts", fn := fun _ => fun
  | [d1, d2, d3, d4] => { results := [.lit (.bool true)], args := [d1, d2, d3, d4] }
  | _ => none }
def dirPutsRow : OpenClaim := { program := "ytkeknmgnoceogaagreat", sum := "8cd92b8d31d37aa5186fcdc49a9daa55ef925af78bcd9104224b9a39a9e07141", func := "hedgerow/hedgerowlaw16.DirPuts", spec := "dirPuts", inPlace := ["internal/bytealg.IndexByteString", "internal/bytealg.IndexString", "slices.overlaps[hedgerow/api.Put]"], unfollowed := true, recurses := true, named := ["internal/bytealg.MaxLen"], apart := false }
def DirPutsSaid : Prop := dirPutsRow.holds Tryz.pinned (OpenSpec.ofChange dirPutsSpec)

/-- ITS FALSE NEIGHBOUR: 'it returns false'. Refute it at one input. -/
def dirPutsWrong : ChangeSpec := { name := "dirPuts", fn := fun _ => fun
  | [d1, d2, d3, d4] => { results := [.lit (.bool false)], args := [d1, d2, d3, d4] }
  | _ => none }
def DirPutsWrongFalsely : Prop := dirPutsRow.holds Tryz.pinned (OpenSpec.ofChange dirPutsWrong)

/-- 'hedgerowlaw16.DirTakes': WHATEVER THE INPUT: true; the input reads as it did. -/
def dirTakesSpec : ChangeSpec := { name := "dirTakes", fn := fun _ => fun
  | [d1, d2, d3] => { results := [.lit (.bool true)], args := [d1, d2, d3] }
  | _ => none }
def dirTakesRow : OpenClaim := { program := "ytkeknmgnoceogaagreat", sum := "8cd92b8d31d37aa5186fcdc49a9daa55ef925af78bcd9104224b9a39a9e07141", func := "hedgerow/hedgerowlaw16.DirTakes", spec := "dirTakes", inPlace := ["internal/bytealg.IndexByteString", "internal/bytealg.IndexString", "slices.overlaps[hedgerow/api.Put]"], unfollowed := true, recurses := true, named := ["internal/bytealg.MaxLen"], apart := false }
def DirTakesSaid : Prop := dirTakesRow.holds Tryz.pinned (OpenSpec.ofChange dirTakesSpec)

/-- ITS FALSE NEIGHBOUR: 'it returns false'. Refute it at one input. -/
def dirTakesWrong : ChangeSpec := { name := "dirTakes", fn := fun _ => fun
  | [d1, d2, d3] => { results := [.lit (.bool false)], args := [d1, d2, d3] }
  | _ => none }
def DirTakesWrongFalsely : Prop := dirTakesRow.holds Tryz.pinned (OpenSpec.ofChange dirTakesWrong)

/-- 'hedgerowlaw16.DirHolds': WHATEVER THE INPUT: true; the input reads as it did. -/
def dirHoldsSpec : ChangeSpec := { name := "dirHolds", fn := fun _ => fun
  | [d1, d2, d3] => { results := [.lit (.bool true)], args := [d1, d2, d3] }
  | _ => none }
def dirHoldsRow : OpenClaim := { program := "ytkeknmgnoceogaagreat", sum := "8cd92b8d31d37aa5186fcdc49a9daa55ef925af78bcd9104224b9a39a9e07141", func := "hedgerow/hedgerowlaw16.DirHolds", spec := "dirHolds", inPlace := ["internal/bytealg.IndexByteString", "internal/bytealg.IndexString", "slices.overlaps[hedgerow/api.Put]"], unfollowed := true, recurses := true, named := ["internal/bytealg.MaxLen"], apart := false }
def DirHoldsSaid : Prop := dirHoldsRow.holds Tryz.pinned (OpenSpec.ofChange dirHoldsSpec)

/-- ITS FALSE NEIGHBOUR: 'it returns false'. Refute it at one input. -/
def dirHoldsWrong : ChangeSpec := { name := "dirHolds", fn := fun _ => fun
  | [d1, d2, d3] => { results := [.lit (.bool false)], args := [d1, d2, d3] }
  | _ => none }
def DirHoldsWrongFalsely : Prop := dirHoldsRow.holds Tryz.pinned (OpenSpec.ofChange dirHoldsWrong)

/-- 'hedgerowlaw16.DirFrom': WHATEVER THE INPUT: true; the input reads as it did. -/
def dirFromSpec : ChangeSpec := { name := "dirFrom", fn := fun _ => fun
  | [d1, d2, d3] => { results := [.lit (.bool true)], args := [d1, d2, d3] }
  | _ => none }
def dirFromRow : OpenClaim := { program := "ytkeknmgnoceogaagreat", sum := "8cd92b8d31d37aa5186fcdc49a9daa55ef925af78bcd9104224b9a39a9e07141", func := "hedgerow/hedgerowlaw16.DirFrom", spec := "dirFrom", inPlace := ["internal/bytealg.IndexByteString", "internal/bytealg.IndexString", "slices.overlaps[hedgerow/api.Put]"], unfollowed := true, recurses := true, named := ["internal/bytealg.MaxLen"], apart := false }
def DirFromSaid : Prop := dirFromRow.holds Tryz.pinned (OpenSpec.ofChange dirFromSpec)

/-- ITS FALSE NEIGHBOUR: 'it returns false'. Refute it at one input. -/
def dirFromWrong : ChangeSpec := { name := "dirFrom", fn := fun _ => fun
  | [d1, d2, d3] => { results := [.lit (.bool false)], args := [d1, d2, d3] }
  | _ => none }
def DirFromWrongFalsely : Prop := dirFromRow.holds Tryz.pinned (OpenSpec.ofChange dirFromWrong)

/-- 'hedgerowlaw16.DirSwaps': WHATEVER THE INPUT: true; the input reads as it did. -/
def dirSwapsSpec : ChangeSpec := { name := "dirSwaps", fn := fun _ => fun
  | [d1, d2, d3] => { results := [.lit (.bool true)], args := [d1, d2, d3] }
  | _ => none }
def dirSwapsRow : OpenClaim := { program := "ytkeknmgnoceogaagreat", sum := "8cd92b8d31d37aa5186fcdc49a9daa55ef925af78bcd9104224b9a39a9e07141", func := "hedgerow/hedgerowlaw16.DirSwaps", spec := "dirSwaps", inPlace := ["internal/bytealg.IndexByteString", "internal/bytealg.IndexString", "slices.overlaps[hedgerow/api.Put]"], unfollowed := true, recurses := true, named := ["internal/bytealg.MaxLen"], apart := false }
def DirSwapsSaid : Prop := dirSwapsRow.holds Tryz.pinned (OpenSpec.ofChange dirSwapsSpec)

/-- ITS FALSE NEIGHBOUR: 'it returns false'. Refute it at one input. -/
def dirSwapsWrong : ChangeSpec := { name := "dirSwaps", fn := fun _ => fun
  | [d1, d2, d3] => { results := [.lit (.bool false)], args := [d1, d2, d3] }
  | _ => none }
def DirSwapsWrongFalsely : Prop := dirSwapsRow.holds Tryz.pinned (OpenSpec.ofChange dirSwapsWrong)

/- THE SECOND FORM. 'bulk': how many values and letters a reading holds, each counted each time it is reached (what is shared counts as often as it is met; a slice's spare places count too). A statement '..UptoSaid' is the law's where the arguments, and the package variables that the reading takes, are together of bulk at most 1048576: NARROWER than '..Said'. Prove '..Said' where nothing that the law and all that it calls make is longer than what came in: it says more and counts as full. Else prove '..UptoSaid'. A law counts once. -/
mutual
def uptoBulk {H : Type} : DataW H → Nat
  | .lit (.string bytes) => bytes.length + 1
  | .lit _ => 1
  | .nil => 1
  | .ptr d => uptoBulk d + 1
  | .slice elems spare => uptoBulkAll elems + uptoBulkAll spare + 1
  | .agg parts => uptoBulkAll parts + 1
  | .iface _ d => uptoBulk d + 1
  | .map entries => uptoBulkEntries entries + 1
  | .held _ => 1
def uptoBulkAll {H : Type} : List (DataW H) → Nat
  | [] => 0
  | d :: r => uptoBulk d + uptoBulkAll r
def uptoBulkEntries {H : Type} : List (Lit × DataW H) → Nat
  | [] => 0
  | x :: r => uptoBulkEntry x + uptoBulkEntries r
def uptoBulkEntry {H : Type} : Lit × DataW H → Nat
  | (.string bytes, d) => bytes.length + uptoBulk d + 1
  | (_, d) => uptoBulk d + 1
 end
def uptoSmall : (H : Type) → List (DataW H) → Bool := fun _ ds => decide (uptoBulkAll ds ≤ 1048576)
def OpenSpec.upto (s : _root_.Go.ChangeSpec) : _root_.Go.OpenSpec := { _root_.Go.OpenSpec.ofChange s with cond := some uptoSmall }

/-- 'hedgerowlaw16.DirLists', WHERE WHAT IT READS IS OF BULK AT MOST 1048576: true; the input reads as it did. -/
def dirListsUptoRow : OpenClaim := { program := "ytkeknmgnoceogaagreat", sum := "8cd92b8d31d37aa5186fcdc49a9daa55ef925af78bcd9104224b9a39a9e07141", func := "hedgerow/hedgerowlaw16.DirLists", spec := "dirLists", inPlace := ["internal/bytealg.IndexByteString", "internal/bytealg.IndexString", "slices.overlaps[hedgerow/api.Put]"], unfollowed := true, recurses := true, named := ["internal/bytealg.MaxLen"], apart := false, narrowed := true }
def DirListsUptoSaid : Prop := dirListsUptoRow.holds Tryz.pinned (OpenSpec.upto dirListsSpec)

/-- 'hedgerowlaw16.DirFinds', WHERE WHAT IT READS IS OF BULK AT MOST 1048576: true; the input reads as it did. -/
def dirFindsUptoRow : OpenClaim := { program := "ytkeknmgnoceogaagreat", sum := "8cd92b8d31d37aa5186fcdc49a9daa55ef925af78bcd9104224b9a39a9e07141", func := "hedgerow/hedgerowlaw16.DirFinds", spec := "dirFinds", inPlace := ["internal/bytealg.IndexByteString", "internal/bytealg.IndexString", "slices.overlaps[hedgerow/api.Put]"], unfollowed := true, recurses := true, named := ["internal/bytealg.MaxLen"], apart := false, narrowed := true }
def DirFindsUptoSaid : Prop := dirFindsUptoRow.holds Tryz.pinned (OpenSpec.upto dirFindsSpec)

/-- 'hedgerowlaw16.DirPuts', WHERE WHAT IT READS IS OF BULK AT MOST 1048576: true; the input reads as it did. -/
def dirPutsUptoRow : OpenClaim := { program := "ytkeknmgnoceogaagreat", sum := "8cd92b8d31d37aa5186fcdc49a9daa55ef925af78bcd9104224b9a39a9e07141", func := "hedgerow/hedgerowlaw16.DirPuts", spec := "dirPuts", inPlace := ["internal/bytealg.IndexByteString", "internal/bytealg.IndexString", "slices.overlaps[hedgerow/api.Put]"], unfollowed := true, recurses := true, named := ["internal/bytealg.MaxLen"], apart := false, narrowed := true }
def DirPutsUptoSaid : Prop := dirPutsUptoRow.holds Tryz.pinned (OpenSpec.upto dirPutsSpec)

/-- 'hedgerowlaw16.DirTakes', WHERE WHAT IT READS IS OF BULK AT MOST 1048576: true; the input reads as it did. -/
def dirTakesUptoRow : OpenClaim := { program := "ytkeknmgnoceogaagreat", sum := "8cd92b8d31d37aa5186fcdc49a9daa55ef925af78bcd9104224b9a39a9e07141", func := "hedgerow/hedgerowlaw16.DirTakes", spec := "dirTakes", inPlace := ["internal/bytealg.IndexByteString", "internal/bytealg.IndexString", "slices.overlaps[hedgerow/api.Put]"], unfollowed := true, recurses := true, named := ["internal/bytealg.MaxLen"], apart := false, narrowed := true }
def DirTakesUptoSaid : Prop := dirTakesUptoRow.holds Tryz.pinned (OpenSpec.upto dirTakesSpec)

/-- 'hedgerowlaw16.DirHolds', WHERE WHAT IT READS IS OF BULK AT MOST 1048576: true; the input reads as it did. -/
def dirHoldsUptoRow : OpenClaim := { program := "ytkeknmgnoceogaagreat", sum := "8cd92b8d31d37aa5186fcdc49a9daa55ef925af78bcd9104224b9a39a9e07141", func := "hedgerow/hedgerowlaw16.DirHolds", spec := "dirHolds", inPlace := ["internal/bytealg.IndexByteString", "internal/bytealg.IndexString", "slices.overlaps[hedgerow/api.Put]"], unfollowed := true, recurses := true, named := ["internal/bytealg.MaxLen"], apart := false, narrowed := true }
def DirHoldsUptoSaid : Prop := dirHoldsUptoRow.holds Tryz.pinned (OpenSpec.upto dirHoldsSpec)

/-- 'hedgerowlaw16.DirFrom', WHERE WHAT IT READS IS OF BULK AT MOST 1048576: true; the input reads as it did. -/
def dirFromUptoRow : OpenClaim := { program := "ytkeknmgnoceogaagreat", sum := "8cd92b8d31d37aa5186fcdc49a9daa55ef925af78bcd9104224b9a39a9e07141", func := "hedgerow/hedgerowlaw16.DirFrom", spec := "dirFrom", inPlace := ["internal/bytealg.IndexByteString", "internal/bytealg.IndexString", "slices.overlaps[hedgerow/api.Put]"], unfollowed := true, recurses := true, named := ["internal/bytealg.MaxLen"], apart := false, narrowed := true }
def DirFromUptoSaid : Prop := dirFromUptoRow.holds Tryz.pinned (OpenSpec.upto dirFromSpec)

/-- 'hedgerowlaw16.DirSwaps', WHERE WHAT IT READS IS OF BULK AT MOST 1048576: true; the input reads as it did. -/
def dirSwapsUptoRow : OpenClaim := { program := "ytkeknmgnoceogaagreat", sum := "8cd92b8d31d37aa5186fcdc49a9daa55ef925af78bcd9104224b9a39a9e07141", func := "hedgerow/hedgerowlaw16.DirSwaps", spec := "dirSwaps", inPlace := ["internal/bytealg.IndexByteString", "internal/bytealg.IndexString", "slices.overlaps[hedgerow/api.Put]"], unfollowed := true, recurses := true, named := ["internal/bytealg.MaxLen"], apart := false, narrowed := true }
def DirSwapsUptoSaid : Prop := dirSwapsUptoRow.holds Tryz.pinned (OpenSpec.upto dirSwapsSpec)

end Rows
end Go.Proofs.YtkeknmgnoceogaaGreat
