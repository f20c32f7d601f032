/-
  No cell of these rows narrows 'for every input' (looked for: loops, veiled, ifaces, maps, wideKeys, modest, calm, conditions, laid).
  DERIVED. THE GIVEN ROWS OF THIS SEAT. 11 by the template 'for every input the law returns true; each argument reads behind the call as it read before'; 0 by the template 'total and deterministic' (their statements: YtoenkapnfbcjeaaTotals.lean).
  GIVEN WITH THE SEED: the statements are not yours to turn. If you find one false, say at which input.
  Laid BY PROGRAM, IN A SANDBOX (cutbox-rows.mjs): the forced cells as the released guide's own fill.sh prints them over the translation 75f367e750a1c3b2… (all of the seat's roots in one cut). By AI agents, Wed Nov 11 2026. No macro, syntax, notation, axiom, sorry.
-/
import Derived.Test.YtoenkapnfbcjeaaChecked
import GoSem.Claim
import GoSem.ClaimJoined
import GoSem.ClaimMapViews
import Derived.JoinedTies
import Derived.KernelRfl
namespace Go.Proofs.Ytoenkapnfbcjeaa
/- THE CELL 'sum', in the pinned program and in every row, IS THE sha256 OF THE DUMP (.gsa) THAT YtoenkapnfbcjeaaProg.lean LOADS. Nothing in Lean hashes anything: it is a label: what it is worth is what the hold of that sum in a sandbox is worth. -/
noncomputable def Try.pinned : Pinned := { name := "ytoenkapnfbcjeaa", sum := "75f367e750a1c3b22f4b95f2b3fbf4ebc23dcc200070938c10653f4681dc9424", checked := Try.checked }
namespace Rows
def none {H : Type} : Left H := { results := [], args := [] }

/-- 'floodgatelaw34.LimitTells': WHATEVER THE INPUT: true; the input reads as it did. -/
def limitTellsSpec : ChangeSpec := { name := "limitTells", fn := fun _ => fun
  | [d1, d2, d3] => { results := [.lit (.bool true)], args := [d1, d2, d3] }
  | _ => none }
def limitTellsRow : OpenClaim := { program := "ytoenkapnfbcjeaa", sum := "75f367e750a1c3b22f4b95f2b3fbf4ebc23dcc200070938c10653f4681dc9424", func := "floodgate/floodgatelaw34.LimitTells", spec := "limitTells", apart := false }
def LimitTellsSaid : Prop := limitTellsRow.holds Try.pinned (OpenSpec.ofChange limitTellsSpec)

/-- ITS FALSE NEIGHBOUR: 'it returns false'. Refute it at one input. -/
def limitTellsWrong : ChangeSpec := { name := "limitTells", fn := fun _ => fun
  | [d1, d2, d3] => { results := [.lit (.bool false)], args := [d1, d2, d3] }
  | _ => none }
def LimitTellsWrongFalsely : Prop := limitTellsRow.holds Try.pinned (OpenSpec.ofChange limitTellsWrong)

/-- 'floodgatelaw29.ScriptDecodes': WHATEVER THE INPUT: true; the input reads as it did. -/
def scriptDecodesSpec : ChangeSpec := { name := "scriptDecodes", fn := fun _ => fun
  | [d] => { results := [.lit (.bool true)], args := [d] }
  | _ => none }
def scriptDecodesRow : OpenClaim := { program := "ytoenkapnfbcjeaa", sum := "75f367e750a1c3b22f4b95f2b3fbf4ebc23dcc200070938c10653f4681dc9424", func := "floodgate/floodgatelaw29.ScriptDecodes", spec := "scriptDecodes", unfollowed := true, recurses := true, apart := false }
def ScriptDecodesSaid : Prop := scriptDecodesRow.holds Try.pinned (OpenSpec.ofChange scriptDecodesSpec)

/-- ITS FALSE NEIGHBOUR: 'it returns false'. Refute it at one input. -/
def scriptDecodesWrong : ChangeSpec := { name := "scriptDecodes", fn := fun _ => fun
  | [d] => { results := [.lit (.bool false)], args := [d] }
  | _ => none }
def ScriptDecodesWrongFalsely : Prop := scriptDecodesRow.holds Try.pinned (OpenSpec.ofChange scriptDecodesWrong)

/-- 'floodgatelaw48.ConformBursts': WHATEVER THE INPUT: true; the input reads as it did. -/
def conformBurstsSpec : ChangeSpec := { name := "conformBursts", fn := fun _ => fun
  | [d1, d2, d3] => { results := [.lit (.bool true)], args := [d1, d2, d3] }
  | _ => none }
def conformBurstsRow : OpenClaim := { program := "ytoenkapnfbcjeaa", sum := "75f367e750a1c3b22f4b95f2b3fbf4ebc23dcc200070938c10653f4681dc9424", func := "floodgate/floodgatelaw48.ConformBursts", spec := "conformBursts", unfollowed := true, recurses := true, apart := false }
def ConformBurstsSaid : Prop := conformBurstsRow.holds Try.pinned (OpenSpec.ofChange conformBurstsSpec)

/-- ITS FALSE NEIGHBOUR: 'it returns false'. Refute it at one input. -/
def conformBurstsWrong : ChangeSpec := { name := "conformBursts", fn := fun _ => fun
  | [d1, d2, d3] => { results := [.lit (.bool false)], args := [d1, d2, d3] }
  | _ => none }
def ConformBurstsWrongFalsely : Prop := conformBurstsRow.holds Try.pinned (OpenSpec.ofChange conformBurstsWrong)

/-- 'floodgatelaw48.ConformMore': WHATEVER THE INPUT: true; the input reads as it did. -/
def conformMoreSpec : ChangeSpec := { name := "conformMore", fn := fun _ => fun
  | [d1, d2, d3] => { results := [.lit (.bool true)], args := [d1, d2, d3] }
  | _ => none }
def conformMoreRow : OpenClaim := { program := "ytoenkapnfbcjeaa", sum := "75f367e750a1c3b22f4b95f2b3fbf4ebc23dcc200070938c10653f4681dc9424", func := "floodgate/floodgatelaw48.ConformMore", spec := "conformMore", unfollowed := true, recurses := true, apart := false }
def ConformMoreSaid : Prop := conformMoreRow.holds Try.pinned (OpenSpec.ofChange conformMoreSpec)

/-- ITS FALSE NEIGHBOUR: 'it returns false'. Refute it at one input. -/
def conformMoreWrong : ChangeSpec := { name := "conformMore", fn := fun _ => fun
  | [d1, d2, d3] => { results := [.lit (.bool false)], args := [d1, d2, d3] }
  | _ => none }
def ConformMoreWrongFalsely : Prop := conformMoreRow.holds Try.pinned (OpenSpec.ofChange conformMoreWrong)

/-- 'floodgatelaw48.ConformBound': WHATEVER THE INPUT: true; the input reads as it did. -/
def conformBoundSpec : ChangeSpec := { name := "conformBound", fn := fun _ => fun
  | [d1, d2, d3] => { results := [.lit (.bool true)], args := [d1, d2, d3] }
  | _ => none }
def conformBoundRow : OpenClaim := { program := "ytoenkapnfbcjeaa", sum := "75f367e750a1c3b22f4b95f2b3fbf4ebc23dcc200070938c10653f4681dc9424", func := "floodgate/floodgatelaw48.ConformBound", spec := "conformBound", unfollowed := true, recurses := true, apart := false }
def ConformBoundSaid : Prop := conformBoundRow.holds Try.pinned (OpenSpec.ofChange conformBoundSpec)

/-- ITS FALSE NEIGHBOUR: 'it returns false'. Refute it at one input. -/
def conformBoundWrong : ChangeSpec := { name := "conformBound", fn := fun _ => fun
  | [d1, d2, d3] => { results := [.lit (.bool false)], args := [d1, d2, d3] }
  | _ => none }
def ConformBoundWrongFalsely : Prop := conformBoundRow.holds Try.pinned (OpenSpec.ofChange conformBoundWrong)

/-- 'floodgatelaw49.BehindTells': WHATEVER THE INPUT: true; the input reads as it did. -/
def behindTellsSpec : ChangeSpec := { name := "behindTells", fn := fun _ => fun
  | [d1, d2, d3] => { results := [.lit (.bool true)], args := [d1, d2, d3] }
  | _ => none }
def behindTellsRow : OpenClaim := { program := "ytoenkapnfbcjeaa", sum := "75f367e750a1c3b22f4b95f2b3fbf4ebc23dcc200070938c10653f4681dc9424", func := "floodgate/floodgatelaw49.BehindTells", spec := "behindTells", unfollowed := true, recurses := true, apart := false }
def BehindTellsSaid : Prop := behindTellsRow.holds Try.pinned (OpenSpec.ofChange behindTellsSpec)

/-- ITS FALSE NEIGHBOUR: 'it returns false'. Refute it at one input. -/
def behindTellsWrong : ChangeSpec := { name := "behindTells", fn := fun _ => fun
  | [d1, d2, d3] => { results := [.lit (.bool false)], args := [d1, d2, d3] }
  | _ => none }
def BehindTellsWrongFalsely : Prop := behindTellsRow.holds Try.pinned (OpenSpec.ofChange behindTellsWrong)

/-- 'floodgatelaw49.BehindLeast': WHATEVER THE INPUT: true; the input reads as it did. -/
def behindLeastSpec : ChangeSpec := { name := "behindLeast", fn := fun _ => fun
  | [d1, d2, d3] => { results := [.lit (.bool true)], args := [d1, d2, d3] }
  | _ => none }
def behindLeastRow : OpenClaim := { program := "ytoenkapnfbcjeaa", sum := "75f367e750a1c3b22f4b95f2b3fbf4ebc23dcc200070938c10653f4681dc9424", func := "floodgate/floodgatelaw49.BehindLeast", spec := "behindLeast", unfollowed := true, recurses := true, apart := false }
def BehindLeastSaid : Prop := behindLeastRow.holds Try.pinned (OpenSpec.ofChange behindLeastSpec)

/-- ITS FALSE NEIGHBOUR: 'it returns false'. Refute it at one input. -/
def behindLeastWrong : ChangeSpec := { name := "behindLeast", fn := fun _ => fun
  | [d1, d2, d3] => { results := [.lit (.bool false)], args := [d1, d2, d3] }
  | _ => none }
def BehindLeastWrongFalsely : Prop := behindLeastRow.holds Try.pinned (OpenSpec.ofChange behindLeastWrong)

/-- 'floodgatelaw29.ScriptEncodes': WHATEVER THE INPUT: true; the input reads as it did. -/
def scriptEncodesSpec : ChangeSpec := { name := "scriptEncodes", fn := fun _ => fun
  | [d] => { results := [.lit (.bool true)], args := [d] }
  | _ => none }
def scriptEncodesRow : OpenClaim := { program := "ytoenkapnfbcjeaa", sum := "75f367e750a1c3b22f4b95f2b3fbf4ebc23dcc200070938c10653f4681dc9424", func := "floodgate/floodgatelaw29.ScriptEncodes", spec := "scriptEncodes", unfollowed := true, recurses := true, apart := false }
def ScriptEncodesSaid : Prop := scriptEncodesRow.holds Try.pinned (OpenSpec.ofChange scriptEncodesSpec)

/-- ITS FALSE NEIGHBOUR: 'it returns false'. Refute it at one input. -/
def scriptEncodesWrong : ChangeSpec := { name := "scriptEncodes", fn := fun _ => fun
  | [d] => { results := [.lit (.bool false)], args := [d] }
  | _ => none }
def ScriptEncodesWrongFalsely : Prop := scriptEncodesRow.holds Try.pinned (OpenSpec.ofChange scriptEncodesWrong)

/-- 'floodgatelaw29.ScriptBack': WHATEVER THE INPUT: true; the input reads as it did. -/
def scriptBackSpec : ChangeSpec := { name := "scriptBack", fn := fun _ => fun
  | [d1, d2] => { results := [.lit (.bool true)], args := [d1, d2] }
  | _ => none }
def scriptBackRow : OpenClaim := { program := "ytoenkapnfbcjeaa", sum := "75f367e750a1c3b22f4b95f2b3fbf4ebc23dcc200070938c10653f4681dc9424", func := "floodgate/floodgatelaw29.ScriptBack", spec := "scriptBack", unfollowed := true, recurses := true, apart := false }
def ScriptBackSaid : Prop := scriptBackRow.holds Try.pinned (OpenSpec.ofChange scriptBackSpec)

/-- ITS FALSE NEIGHBOUR: 'it returns false'. Refute it at one input. -/
def scriptBackWrong : ChangeSpec := { name := "scriptBack", fn := fun _ => fun
  | [d1, d2] => { results := [.lit (.bool false)], args := [d1, d2] }
  | _ => none }
def ScriptBackWrongFalsely : Prop := scriptBackRow.holds Try.pinned (OpenSpec.ofChange scriptBackWrong)

/-- 'floodgatelaw29.ScriptForth': WHATEVER THE INPUT: true; the input reads as it did. -/
def scriptForthSpec : ChangeSpec := { name := "scriptForth", fn := fun _ => fun
  | [d] => { results := [.lit (.bool true)], args := [d] }
  | _ => none }
def scriptForthRow : OpenClaim := { program := "ytoenkapnfbcjeaa", sum := "75f367e750a1c3b22f4b95f2b3fbf4ebc23dcc200070938c10653f4681dc9424", func := "floodgate/floodgatelaw29.ScriptForth", spec := "scriptForth", unfollowed := true, recurses := true, apart := false }
def ScriptForthSaid : Prop := scriptForthRow.holds Try.pinned (OpenSpec.ofChange scriptForthSpec)

/-- ITS FALSE NEIGHBOUR: 'it returns false'. Refute it at one input. -/
def scriptForthWrong : ChangeSpec := { name := "scriptForth", fn := fun _ => fun
  | [d] => { results := [.lit (.bool false)], args := [d] }
  | _ => none }
def ScriptForthWrongFalsely : Prop := scriptForthRow.holds Try.pinned (OpenSpec.ofChange scriptForthWrong)

/-- 'floodgatelaw31.SpansBelow': WHATEVER THE INPUT: true; the input reads as it did. -/
def spansBelowSpec : ChangeSpec := { name := "spansBelow", fn := fun _ => fun
  | [d1, d2] => { results := [.lit (.bool true)], args := [d1, d2] }
  | _ => none }
def spansBelowRow : OpenClaim := { program := "ytoenkapnfbcjeaa", sum := "75f367e750a1c3b22f4b95f2b3fbf4ebc23dcc200070938c10653f4681dc9424", func := "floodgate/floodgatelaw31.SpansBelow", spec := "spansBelow", unfollowed := true, recurses := true, apart := false }
def SpansBelowSaid : Prop := spansBelowRow.holds Try.pinned (OpenSpec.ofChange spansBelowSpec)

/-- ITS FALSE NEIGHBOUR: 'it returns false'. Refute it at one input. -/
def spansBelowWrong : ChangeSpec := { name := "spansBelow", fn := fun _ => fun
  | [d1, d2] => { results := [.lit (.bool false)], args := [d1, d2] }
  | _ => none }
def SpansBelowWrongFalsely : Prop := spansBelowRow.holds Try.pinned (OpenSpec.ofChange spansBelowWrong)

/- THE SECOND FORM. 'bulk': how many values and letters a reading holds, each counted each time it is reached (what is shared counts as often as it is met; a slice's spare places count too). A statement '..UptoSaid' is the law's where the arguments, and the package variables that the reading takes, are together of bulk at most 1048576: NARROWER than '..Said'. Prove '..Said' where nothing that the law and all that it calls make is longer than what came in: it says more and counts as full. Else prove '..UptoSaid'. A law counts once. -/
mutual
def uptoBulk {H : Type} : DataW H → Nat
  | .lit (.string bytes) => bytes.length + 1
  | .lit _ => 1
  | .nil => 1
  | .ptr d => uptoBulk d + 1
  | .slice elems spare => uptoBulkAll elems + uptoBulkAll spare + 1
  | .agg parts => uptoBulkAll parts + 1
  | .iface _ d => uptoBulk d + 1
  | .map entries => uptoBulkEntries entries + 1
  | .held _ => 1
def uptoBulkAll {H : Type} : List (DataW H) → Nat
  | [] => 0
  | d :: r => uptoBulk d + uptoBulkAll r
def uptoBulkEntries {H : Type} : List (Lit × DataW H) → Nat
  | [] => 0
  | x :: r => uptoBulkEntry x + uptoBulkEntries r
def uptoBulkEntry {H : Type} : Lit × DataW H → Nat
  | (.string bytes, d) => bytes.length + uptoBulk d + 1
  | (_, d) => uptoBulk d + 1
 end
def uptoSmall : (H : Type) → List (DataW H) → Bool := fun _ ds => decide (uptoBulkAll ds ≤ 1048576)
def OpenSpec.upto (s : _root_.Go.ChangeSpec) : _root_.Go.OpenSpec := { _root_.Go.OpenSpec.ofChange s with cond := some uptoSmall }

/-- 'floodgatelaw34.LimitTells', WHERE WHAT IT READS IS OF BULK AT MOST 1048576: true; the input reads as it did. -/
def limitTellsUptoRow : OpenClaim := { program := "ytoenkapnfbcjeaa", sum := "75f367e750a1c3b22f4b95f2b3fbf4ebc23dcc200070938c10653f4681dc9424", func := "floodgate/floodgatelaw34.LimitTells", spec := "limitTells", apart := false, narrowed := true }
def LimitTellsUptoSaid : Prop := limitTellsUptoRow.holds Try.pinned (OpenSpec.upto limitTellsSpec)

/-- 'floodgatelaw29.ScriptDecodes', WHERE WHAT IT READS IS OF BULK AT MOST 1048576: true; the input reads as it did. -/
def scriptDecodesUptoRow : OpenClaim := { program := "ytoenkapnfbcjeaa", sum := "75f367e750a1c3b22f4b95f2b3fbf4ebc23dcc200070938c10653f4681dc9424", func := "floodgate/floodgatelaw29.ScriptDecodes", spec := "scriptDecodes", unfollowed := true, recurses := true, apart := false, narrowed := true }
def ScriptDecodesUptoSaid : Prop := scriptDecodesUptoRow.holds Try.pinned (OpenSpec.upto scriptDecodesSpec)

/-- 'floodgatelaw48.ConformBursts', WHERE WHAT IT READS IS OF BULK AT MOST 1048576: true; the input reads as it did. -/
def conformBurstsUptoRow : OpenClaim := { program := "ytoenkapnfbcjeaa", sum := "75f367e750a1c3b22f4b95f2b3fbf4ebc23dcc200070938c10653f4681dc9424", func := "floodgate/floodgatelaw48.ConformBursts", spec := "conformBursts", unfollowed := true, recurses := true, apart := false, narrowed := true }
def ConformBurstsUptoSaid : Prop := conformBurstsUptoRow.holds Try.pinned (OpenSpec.upto conformBurstsSpec)

/-- 'floodgatelaw48.ConformMore', WHERE WHAT IT READS IS OF BULK AT MOST 1048576: true; the input reads as it did. -/
def conformMoreUptoRow : OpenClaim := { program := "ytoenkapnfbcjeaa", sum := "75f367e750a1c3b22f4b95f2b3fbf4ebc23dcc200070938c10653f4681dc9424", func := "floodgate/floodgatelaw48.ConformMore", spec := "conformMore", unfollowed := true, recurses := true, apart := false, narrowed := true }
def ConformMoreUptoSaid : Prop := conformMoreUptoRow.holds Try.pinned (OpenSpec.upto conformMoreSpec)

/-- 'floodgatelaw48.ConformBound', WHERE WHAT IT READS IS OF BULK AT MOST 1048576: true; the input reads as it did. -/
def conformBoundUptoRow : OpenClaim := { program := "ytoenkapnfbcjeaa", sum := "75f367e750a1c3b22f4b95f2b3fbf4ebc23dcc200070938c10653f4681dc9424", func := "floodgate/floodgatelaw48.ConformBound", spec := "conformBound", unfollowed := true, recurses := true, apart := false, narrowed := true }
def ConformBoundUptoSaid : Prop := conformBoundUptoRow.holds Try.pinned (OpenSpec.upto conformBoundSpec)

/-- 'floodgatelaw49.BehindTells', WHERE WHAT IT READS IS OF BULK AT MOST 1048576: true; the input reads as it did. -/
def behindTellsUptoRow : OpenClaim := { program := "ytoenkapnfbcjeaa", sum := "75f367e750a1c3b22f4b95f2b3fbf4ebc23dcc200070938c10653f4681dc9424", func := "floodgate/floodgatelaw49.BehindTells", spec := "behindTells", unfollowed := true, recurses := true, apart := false, narrowed := true }
def BehindTellsUptoSaid : Prop := behindTellsUptoRow.holds Try.pinned (OpenSpec.upto behindTellsSpec)

/-- 'floodgatelaw49.BehindLeast', WHERE WHAT IT READS IS OF BULK AT MOST 1048576: true; the input reads as it did. -/
def behindLeastUptoRow : OpenClaim := { program := "ytoenkapnfbcjeaa", sum := "75f367e750a1c3b22f4b95f2b3fbf4ebc23dcc200070938c10653f4681dc9424", func := "floodgate/floodgatelaw49.BehindLeast", spec := "behindLeast", unfollowed := true, recurses := true, apart := false, narrowed := true }
def BehindLeastUptoSaid : Prop := behindLeastUptoRow.holds Try.pinned (OpenSpec.upto behindLeastSpec)

/-- 'floodgatelaw29.ScriptEncodes', WHERE WHAT IT READS IS OF BULK AT MOST 1048576: true; the input reads as it did. -/
def scriptEncodesUptoRow : OpenClaim := { program := "ytoenkapnfbcjeaa", sum := "75f367e750a1c3b22f4b95f2b3fbf4ebc23dcc200070938c10653f4681dc9424", func := "floodgate/floodgatelaw29.ScriptEncodes", spec := "scriptEncodes", unfollowed := true, recurses := true, apart := false, narrowed := true }
def ScriptEncodesUptoSaid : Prop := scriptEncodesUptoRow.holds Try.pinned (OpenSpec.upto scriptEncodesSpec)

/-- 'floodgatelaw29.ScriptBack', WHERE WHAT IT READS IS OF BULK AT MOST 1048576: true; the input reads as it did. -/
def scriptBackUptoRow : OpenClaim := { program := "ytoenkapnfbcjeaa", sum := "75f367e750a1c3b22f4b95f2b3fbf4ebc23dcc200070938c10653f4681dc9424", func := "floodgate/floodgatelaw29.ScriptBack", spec := "scriptBack", unfollowed := true, recurses := true, apart := false, narrowed := true }
def ScriptBackUptoSaid : Prop := scriptBackUptoRow.holds Try.pinned (OpenSpec.upto scriptBackSpec)

/-- 'floodgatelaw29.ScriptForth', WHERE WHAT IT READS IS OF BULK AT MOST 1048576: true; the input reads as it did. -/
def scriptForthUptoRow : OpenClaim := { program := "ytoenkapnfbcjeaa", sum := "75f367e750a1c3b22f4b95f2b3fbf4ebc23dcc200070938c10653f4681dc9424", func := "floodgate/floodgatelaw29.ScriptForth", spec := "scriptForth", unfollowed := true, recurses := true, apart := false, narrowed := true }
def ScriptForthUptoSaid : Prop := scriptForthUptoRow.holds Try.pinned (OpenSpec.upto scriptForthSpec)

/-- 'floodgatelaw31.SpansBelow', WHERE WHAT IT READS IS OF BULK AT MOST 1048576: true; the input reads as it did. -/
def spansBelowUptoRow : OpenClaim := { program := "ytoenkapnfbcjeaa", sum := "75f367e750a1c3b22f4b95f2b3fbf4ebc23dcc200070938c10653f4681dc9424", func := "floodgate/floodgatelaw31.SpansBelow", spec := "spansBelow", unfollowed := true, recurses := true, apart := false, narrowed := true }
def SpansBelowUptoSaid : Prop := spansBelowUptoRow.holds Try.pinned (OpenSpec.upto spansBelowSpec)

end Rows
end Go.Proofs.Ytoenkapnfbcjeaa
