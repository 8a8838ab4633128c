/-
  No cell of these rows narrows 'for every input' (looked for: loops, veiled, ifaces, maps, wideKeys, modest, calm, conditions, laid).
  DERIVED. THE GIVEN ROWS OF THIS SEAT. 2 by the template 'for every input the law returns true; each argument reads behind the call as it read before'; 0 by the template 'total and deterministic' (their statements: YtffepmoicpphfaaTotals.lean).
  GIVEN WITH THE SEED: the statements are not yours to turn. If you find one false, say at which input.
  Laid BY PROGRAM, IN A SANDBOX (cutbox-rows.mjs): the forced cells as the released guide's own fill.sh prints them over the translation 13f0bad292ce75f2… (all of the seat's roots in one cut). By AI agents, Wed Nov 11 2026. No macro, syntax, notation, axiom, sorry.
-/
import Derived.Test.YtffepmoicpphfaaChecked
import GoSem.Claim
import GoSem.ClaimJoined
import GoSem.ClaimMapViews
import Derived.JoinedTies
import Derived.KernelRfl
namespace Go.Proofs.Ytffepmoicpphfaa
/- THE CELL 'sum', in the pinned program and in every row, IS THE sha256 OF THE DUMP (.gsa) THAT YtffepmoicpphfaaProg.lean LOADS. Nothing in Lean hashes anything: it is a label: what it is worth is what the hold of that sum in a sandbox is worth. -/
noncomputable def Try.pinned : Pinned := { name := "ytffepmoicpphfaa", sum := "13f0bad292ce75f211d7006ba6195d30be4f2d57a39e2d04a890a3a99347ff05", checked := Try.checked }
namespace Rows
def none {H : Type} : Left H := { results := [], args := [] }

/-- 'hedgerowlaw30.ScriptRaws': WHATEVER THE INPUT: true; the input reads as it did. -/
def scriptRawsSpec : ChangeSpec := { name := "scriptRaws", fn := fun _ => fun
  | [d] => { results := [.lit (.bool true)], args := [d] }
  | _ => none }
def scriptRawsRow : OpenClaim := { program := "ytffepmoicpphfaa", sum := "13f0bad292ce75f211d7006ba6195d30be4f2d57a39e2d04a890a3a99347ff05", func := "hedgerow/hedgerowlaw30.ScriptRaws", spec := "scriptRaws", unfollowed := true, recurses := true, apart := false }
def ScriptRawsSaid : Prop := scriptRawsRow.holds Try.pinned (OpenSpec.ofChange scriptRawsSpec)

/-- ITS FALSE NEIGHBOUR: 'it returns false'. Refute it at one input. -/
def scriptRawsWrong : ChangeSpec := { name := "scriptRaws", fn := fun _ => fun
  | [d] => { results := [.lit (.bool false)], args := [d] }
  | _ => none }
def ScriptRawsWrongFalsely : Prop := scriptRawsRow.holds Try.pinned (OpenSpec.ofChange scriptRawsWrong)

/-- 'hedgerowlaw30.ScriptHaps': WHATEVER THE INPUT: true; the input reads as it did. -/
def scriptHapsSpec : ChangeSpec := { name := "scriptHaps", fn := fun _ => fun
  | [d1, d2] => { results := [.lit (.bool true)], args := [d1, d2] }
  | _ => none }
def scriptHapsRow : OpenClaim := { program := "ytffepmoicpphfaa", sum := "13f0bad292ce75f211d7006ba6195d30be4f2d57a39e2d04a890a3a99347ff05", func := "hedgerow/hedgerowlaw30.ScriptHaps", spec := "scriptHaps", unfollowed := true, recurses := true, apart := false }
def ScriptHapsSaid : Prop := scriptHapsRow.holds Try.pinned (OpenSpec.ofChange scriptHapsSpec)

/-- ITS FALSE NEIGHBOUR: 'it returns false'. Refute it at one input. -/
def scriptHapsWrong : ChangeSpec := { name := "scriptHaps", fn := fun _ => fun
  | [d1, d2] => { results := [.lit (.bool false)], args := [d1, d2] }
  | _ => none }
def ScriptHapsWrongFalsely : Prop := scriptHapsRow.holds Try.pinned (OpenSpec.ofChange scriptHapsWrong)

/- THE SECOND FORM. 'bulk': how many values and letters a reading holds, each counted each time it is reached (what is shared counts as often as it is met; a slice's spare places count too). A statement '..UptoSaid' is the law's where the arguments, and the package variables that the reading takes, are together of bulk at most 1048576: NARROWER than '..Said'. Prove '..Said' where nothing that the law and all that it calls make is longer than what came in: it says more and counts as full. Else prove '..UptoSaid'. A law counts once. -/
mutual
def uptoBulk {H : Type} : DataW H → Nat
  | .lit (.string bytes) => bytes.length + 1
  | .lit _ => 1
  | .nil => 1
  | .ptr d => uptoBulk d + 1
  | .slice elems spare => uptoBulkAll elems + uptoBulkAll spare + 1
  | .agg parts => uptoBulkAll parts + 1
  | .iface _ d => uptoBulk d + 1
  | .map entries => uptoBulkEntries entries + 1
  | .held _ => 1
def uptoBulkAll {H : Type} : List (DataW H) → Nat
  | [] => 0
  | d :: r => uptoBulk d + uptoBulkAll r
def uptoBulkEntries {H : Type} : List (Lit × DataW H) → Nat
  | [] => 0
  | x :: r => uptoBulkEntry x + uptoBulkEntries r
def uptoBulkEntry {H : Type} : Lit × DataW H → Nat
  | (.string bytes, d) => bytes.length + uptoBulk d + 1
  | (_, d) => uptoBulk d + 1
 end
def uptoSmall : (H : Type) → List (DataW H) → Bool := fun _ ds => decide (uptoBulkAll ds ≤ 1048576)
def OpenSpec.upto (s : _root_.Go.ChangeSpec) : _root_.Go.OpenSpec := { _root_.Go.OpenSpec.ofChange s with cond := some uptoSmall }

/-- 'hedgerowlaw30.ScriptRaws', WHERE WHAT IT READS IS OF BULK AT MOST 1048576: true; the input reads as it did. -/
def scriptRawsUptoRow : OpenClaim := { program := "ytffepmoicpphfaa", sum := "13f0bad292ce75f211d7006ba6195d30be4f2d57a39e2d04a890a3a99347ff05", func := "hedgerow/hedgerowlaw30.ScriptRaws", spec := "scriptRaws", unfollowed := true, recurses := true, apart := false, narrowed := true }
def ScriptRawsUptoSaid : Prop := scriptRawsUptoRow.holds Try.pinned (OpenSpec.upto scriptRawsSpec)

/-- 'hedgerowlaw30.ScriptHaps', WHERE WHAT IT READS IS OF BULK AT MOST 1048576: true; the input reads as it did. -/
def scriptHapsUptoRow : OpenClaim := { program := "ytffepmoicpphfaa", sum := "13f0bad292ce75f211d7006ba6195d30be4f2d57a39e2d04a890a3a99347ff05", func := "hedgerow/hedgerowlaw30.ScriptHaps", spec := "scriptHaps", unfollowed := true, recurses := true, apart := false, narrowed := true }
def ScriptHapsUptoSaid : Prop := scriptHapsUptoRow.holds Try.pinned (OpenSpec.upto scriptHapsSpec)

end Rows
end Go.Proofs.Ytffepmoicpphfaa
