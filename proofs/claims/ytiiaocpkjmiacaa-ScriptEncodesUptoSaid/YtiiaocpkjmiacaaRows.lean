/-
  No cell of these rows narrows 'for every input' (looked for: loops, veiled, ifaces, maps, wideKeys, modest, calm, conditions, laid).
  DERIVED. THE GIVEN ROWS OF THIS SEAT. 8 by the template 'for every input the law returns true; each argument reads behind the call as it read before'; 0 by the template 'total and deterministic' (their statements: YtiiaocpkjmiacaaTotals.lean).
  GIVEN WITH THE SEED: the statements are not yours to turn. If you find one false, say at which input.
  Laid BY PROGRAM, IN A SANDBOX (cutbox-rows.mjs): the forced cells as the released guide's own fill.sh prints them over the translation d9ce551b60680bcf… (all of the seat's roots in one cut). By AI agents, Wed Nov 11 2026. No macro, syntax, notation, axiom, sorry.
-/
import Derived.Test.YtiiaocpkjmiacaaChecked
import GoSem.Claim
import GoSem.ClaimJoined
import GoSem.ClaimMapViews
import Derived.JoinedTies
import Derived.KernelRfl
namespace Go.Proofs.Ytiiaocpkjmiacaa
/- THE CELL 'sum', in the pinned program and in every row, IS THE sha256 OF THE DUMP (.gsa) THAT YtiiaocpkjmiacaaProg.lean LOADS. Nothing in Lean hashes anything: it is a label: what it is worth is what the hold of that sum in a sandbox is worth. -/
noncomputable def Try.pinned : Pinned := { name := "ytiiaocpkjmiacaa", sum := "d9ce551b60680bcf5c3fceb0d9f078ff55222ed5e088ad0097de4d0ff8293d99", checked := Try.checked }
namespace Rows
def none {H : Type} : Left H := { results := [], args := [] }

/-- 'floodgatelaw36.AuditChecks': WHATEVER THE INPUT: true; the input reads as it did. -/
def auditChecksSpec : ChangeSpec := { name := "auditChecks", fn := fun _ => fun
  | [d1, d2] => { results := [.lit (.bool true)], args := [d1, d2] }
  | _ => none }
def auditChecksRow : OpenClaim := { program := "ytiiaocpkjmiacaa", sum := "d9ce551b60680bcf5c3fceb0d9f078ff55222ed5e088ad0097de4d0ff8293d99", func := "floodgate/floodgatelaw36.AuditChecks", spec := "auditChecks", unfollowed := true, recurses := true, apart := false }
def AuditChecksSaid : Prop := auditChecksRow.holds Try.pinned (OpenSpec.ofChange auditChecksSpec)

/-- ITS FALSE NEIGHBOUR: 'it returns false'. Refute it at one input. -/
def auditChecksWrong : ChangeSpec := { name := "auditChecks", fn := fun _ => fun
  | [d1, d2] => { results := [.lit (.bool false)], args := [d1, d2] }
  | _ => none }
def AuditChecksWrongFalsely : Prop := auditChecksRow.holds Try.pinned (OpenSpec.ofChange auditChecksWrong)

/-- 'floodgatelaw36.AuditWaits': WHATEVER THE INPUT: true; the input reads as it did. -/
def auditWaitsSpec : ChangeSpec := { name := "auditWaits", fn := fun _ => fun
  | [d1, d2] => { results := [.lit (.bool true)], args := [d1, d2] }
  | _ => none }
def auditWaitsRow : OpenClaim := { program := "ytiiaocpkjmiacaa", sum := "d9ce551b60680bcf5c3fceb0d9f078ff55222ed5e088ad0097de4d0ff8293d99", func := "floodgate/floodgatelaw36.AuditWaits", spec := "auditWaits", unfollowed := true, recurses := true, apart := false }
def AuditWaitsSaid : Prop := auditWaitsRow.holds Try.pinned (OpenSpec.ofChange auditWaitsSpec)

/-- ITS FALSE NEIGHBOUR: 'it returns false'. Refute it at one input. -/
def auditWaitsWrong : ChangeSpec := { name := "auditWaits", fn := fun _ => fun
  | [d1, d2] => { results := [.lit (.bool false)], args := [d1, d2] }
  | _ => none }
def AuditWaitsWrongFalsely : Prop := auditWaitsRow.holds Try.pinned (OpenSpec.ofChange auditWaitsWrong)

/-- 'floodgatelaw36.AuditEnough': WHATEVER THE INPUT: true; the input reads as it did. -/
def auditEnoughSpec : ChangeSpec := { name := "auditEnough", fn := fun _ => fun
  | [d1, d2, d3] => { results := [.lit (.bool true)], args := [d1, d2, d3] }
  | _ => none }
def auditEnoughRow : OpenClaim := { program := "ytiiaocpkjmiacaa", sum := "d9ce551b60680bcf5c3fceb0d9f078ff55222ed5e088ad0097de4d0ff8293d99", func := "floodgate/floodgatelaw36.AuditEnough", spec := "auditEnough", unfollowed := true, recurses := true, apart := false }
def AuditEnoughSaid : Prop := auditEnoughRow.holds Try.pinned (OpenSpec.ofChange auditEnoughSpec)

/-- ITS FALSE NEIGHBOUR: 'it returns false'. Refute it at one input. -/
def auditEnoughWrong : ChangeSpec := { name := "auditEnough", fn := fun _ => fun
  | [d1, d2, d3] => { results := [.lit (.bool false)], args := [d1, d2, d3] }
  | _ => none }
def AuditEnoughWrongFalsely : Prop := auditEnoughRow.holds Try.pinned (OpenSpec.ofChange auditEnoughWrong)

/-- 'floodgatelaw29.ScriptDecodes': WHATEVER THE INPUT: true; the input reads as it did. -/
def scriptDecodesSpec : ChangeSpec := { name := "scriptDecodes", fn := fun _ => fun
  | [d] => { results := [.lit (.bool true)], args := [d] }
  | _ => none }
def scriptDecodesRow : OpenClaim := { program := "ytiiaocpkjmiacaa", sum := "d9ce551b60680bcf5c3fceb0d9f078ff55222ed5e088ad0097de4d0ff8293d99", func := "floodgate/floodgatelaw29.ScriptDecodes", spec := "scriptDecodes", unfollowed := true, recurses := true, apart := false }
def ScriptDecodesSaid : Prop := scriptDecodesRow.holds Try.pinned (OpenSpec.ofChange scriptDecodesSpec)

/-- ITS FALSE NEIGHBOUR: 'it returns false'. Refute it at one input. -/
def scriptDecodesWrong : ChangeSpec := { name := "scriptDecodes", fn := fun _ => fun
  | [d] => { results := [.lit (.bool false)], args := [d] }
  | _ => none }
def ScriptDecodesWrongFalsely : Prop := scriptDecodesRow.holds Try.pinned (OpenSpec.ofChange scriptDecodesWrong)

/-- 'floodgatelaw29.ScriptEncodes': WHATEVER THE INPUT: true; the input reads as it did. -/
def scriptEncodesSpec : ChangeSpec := { name := "scriptEncodes", fn := fun _ => fun
  | [d] => { results := [.lit (.bool true)], args := [d] }
  | _ => none }
def scriptEncodesRow : OpenClaim := { program := "ytiiaocpkjmiacaa", sum := "d9ce551b60680bcf5c3fceb0d9f078ff55222ed5e088ad0097de4d0ff8293d99", func := "floodgate/floodgatelaw29.ScriptEncodes", spec := "scriptEncodes", unfollowed := true, recurses := true, apart := false }
def ScriptEncodesSaid : Prop := scriptEncodesRow.holds Try.pinned (OpenSpec.ofChange scriptEncodesSpec)

/-- ITS FALSE NEIGHBOUR: 'it returns false'. Refute it at one input. -/
def scriptEncodesWrong : ChangeSpec := { name := "scriptEncodes", fn := fun _ => fun
  | [d] => { results := [.lit (.bool false)], args := [d] }
  | _ => none }
def ScriptEncodesWrongFalsely : Prop := scriptEncodesRow.holds Try.pinned (OpenSpec.ofChange scriptEncodesWrong)

/-- 'floodgatelaw29.ScriptBack': WHATEVER THE INPUT: true; the input reads as it did. -/
def scriptBackSpec : ChangeSpec := { name := "scriptBack", fn := fun _ => fun
  | [d1, d2] => { results := [.lit (.bool true)], args := [d1, d2] }
  | _ => none }
def scriptBackRow : OpenClaim := { program := "ytiiaocpkjmiacaa", sum := "d9ce551b60680bcf5c3fceb0d9f078ff55222ed5e088ad0097de4d0ff8293d99", func := "floodgate/floodgatelaw29.ScriptBack", spec := "scriptBack", unfollowed := true, recurses := true, apart := false }
def ScriptBackSaid : Prop := scriptBackRow.holds Try.pinned (OpenSpec.ofChange scriptBackSpec)

/-- ITS FALSE NEIGHBOUR: 'it returns false'. Refute it at one input. -/
def scriptBackWrong : ChangeSpec := { name := "scriptBack", fn := fun _ => fun
  | [d1, d2] => { results := [.lit (.bool false)], args := [d1, d2] }
  | _ => none }
def ScriptBackWrongFalsely : Prop := scriptBackRow.holds Try.pinned (OpenSpec.ofChange scriptBackWrong)

/-- 'floodgatelaw29.ScriptForth': WHATEVER THE INPUT: true; the input reads as it did. -/
def scriptForthSpec : ChangeSpec := { name := "scriptForth", fn := fun _ => fun
  | [d] => { results := [.lit (.bool true)], args := [d] }
  | _ => none }
def scriptForthRow : OpenClaim := { program := "ytiiaocpkjmiacaa", sum := "d9ce551b60680bcf5c3fceb0d9f078ff55222ed5e088ad0097de4d0ff8293d99", func := "floodgate/floodgatelaw29.ScriptForth", spec := "scriptForth", unfollowed := true, recurses := true, apart := false }
def ScriptForthSaid : Prop := scriptForthRow.holds Try.pinned (OpenSpec.ofChange scriptForthSpec)

/-- ITS FALSE NEIGHBOUR: 'it returns false'. Refute it at one input. -/
def scriptForthWrong : ChangeSpec := { name := "scriptForth", fn := fun _ => fun
  | [d] => { results := [.lit (.bool false)], args := [d] }
  | _ => none }
def ScriptForthWrongFalsely : Prop := scriptForthRow.holds Try.pinned (OpenSpec.ofChange scriptForthWrong)

/-- 'floodgatelaw31.SpansBelow': WHATEVER THE INPUT: true; the input reads as it did. -/
def spansBelowSpec : ChangeSpec := { name := "spansBelow", fn := fun _ => fun
  | [d1, d2] => { results := [.lit (.bool true)], args := [d1, d2] }
  | _ => none }
def spansBelowRow : OpenClaim := { program := "ytiiaocpkjmiacaa", sum := "d9ce551b60680bcf5c3fceb0d9f078ff55222ed5e088ad0097de4d0ff8293d99", func := "floodgate/floodgatelaw31.SpansBelow", spec := "spansBelow", unfollowed := true, recurses := true, apart := false }
def SpansBelowSaid : Prop := spansBelowRow.holds Try.pinned (OpenSpec.ofChange spansBelowSpec)

/-- ITS FALSE NEIGHBOUR: 'it returns false'. Refute it at one input. -/
def spansBelowWrong : ChangeSpec := { name := "spansBelow", fn := fun _ => fun
  | [d1, d2] => { results := [.lit (.bool false)], args := [d1, d2] }
  | _ => none }
def SpansBelowWrongFalsely : Prop := spansBelowRow.holds Try.pinned (OpenSpec.ofChange spansBelowWrong)

/- THE SECOND FORM. 'bulk': how many values and letters a reading holds, each counted each time it is reached (what is shared counts as often as it is met; a slice's spare places count too). A statement '..UptoSaid' is the law's where the arguments, and the package variables that the reading takes, are together of bulk at most 1048576: NARROWER than '..Said'. Prove '..Said' where nothing that the law and all that it calls make is longer than what came in: it says more and counts as full. Else prove '..UptoSaid'. A law counts once. -/
mutual
def uptoBulk {H : Type} : DataW H → Nat
  | .lit (.string bytes) => bytes.length + 1
  | .lit _ => 1
  | .nil => 1
  | .ptr d => uptoBulk d + 1
  | .slice elems spare => uptoBulkAll elems + uptoBulkAll spare + 1
  | .agg parts => uptoBulkAll parts + 1
  | .iface _ d => uptoBulk d + 1
  | .map entries => uptoBulkEntries entries + 1
  | .held _ => 1
def uptoBulkAll {H : Type} : List (DataW H) → Nat
  | [] => 0
  | d :: r => uptoBulk d + uptoBulkAll r
def uptoBulkEntries {H : Type} : List (Lit × DataW H) → Nat
  | [] => 0
  | x :: r => uptoBulkEntry x + uptoBulkEntries r
def uptoBulkEntry {H : Type} : Lit × DataW H → Nat
  | (.string bytes, d) => bytes.length + uptoBulk d + 1
  | (_, d) => uptoBulk d + 1
 end
def uptoSmall : (H : Type) → List (DataW H) → Bool := fun _ ds => decide (uptoBulkAll ds ≤ 1048576)
def OpenSpec.upto (s : _root_.Go.ChangeSpec) : _root_.Go.OpenSpec := { _root_.Go.OpenSpec.ofChange s with cond := some uptoSmall }

/-- 'floodgatelaw36.AuditChecks', WHERE WHAT IT READS IS OF BULK AT MOST 1048576: true; the input reads as it did. -/
def auditChecksUptoRow : OpenClaim := { program := "ytiiaocpkjmiacaa", sum := "d9ce551b60680bcf5c3fceb0d9f078ff55222ed5e088ad0097de4d0ff8293d99", func := "floodgate/floodgatelaw36.AuditChecks", spec := "auditChecks", unfollowed := true, recurses := true, apart := false, narrowed := true }
def AuditChecksUptoSaid : Prop := auditChecksUptoRow.holds Try.pinned (OpenSpec.upto auditChecksSpec)

/-- 'floodgatelaw36.AuditWaits', WHERE WHAT IT READS IS OF BULK AT MOST 1048576: true; the input reads as it did. -/
def auditWaitsUptoRow : OpenClaim := { program := "ytiiaocpkjmiacaa", sum := "d9ce551b60680bcf5c3fceb0d9f078ff55222ed5e088ad0097de4d0ff8293d99", func := "floodgate/floodgatelaw36.AuditWaits", spec := "auditWaits", unfollowed := true, recurses := true, apart := false, narrowed := true }
def AuditWaitsUptoSaid : Prop := auditWaitsUptoRow.holds Try.pinned (OpenSpec.upto auditWaitsSpec)

/-- 'floodgatelaw36.AuditEnough', WHERE WHAT IT READS IS OF BULK AT MOST 1048576: true; the input reads as it did. -/
def auditEnoughUptoRow : OpenClaim := { program := "ytiiaocpkjmiacaa", sum := "d9ce551b60680bcf5c3fceb0d9f078ff55222ed5e088ad0097de4d0ff8293d99", func := "floodgate/floodgatelaw36.AuditEnough", spec := "auditEnough", unfollowed := true, recurses := true, apart := false, narrowed := true }
def AuditEnoughUptoSaid : Prop := auditEnoughUptoRow.holds Try.pinned (OpenSpec.upto auditEnoughSpec)

/-- 'floodgatelaw29.ScriptDecodes', WHERE WHAT IT READS IS OF BULK AT MOST 1048576: true; the input reads as it did. -/
def scriptDecodesUptoRow : OpenClaim := { program := "ytiiaocpkjmiacaa", sum := "d9ce551b60680bcf5c3fceb0d9f078ff55222ed5e088ad0097de4d0ff8293d99", func := "floodgate/floodgatelaw29.ScriptDecodes", spec := "scriptDecodes", unfollowed := true, recurses := true, apart := false, narrowed := true }
def ScriptDecodesUptoSaid : Prop := scriptDecodesUptoRow.holds Try.pinned (OpenSpec.upto scriptDecodesSpec)

/-- 'floodgatelaw29.ScriptEncodes', WHERE WHAT IT READS IS OF BULK AT MOST 1048576: true; the input reads as it did. -/
def scriptEncodesUptoRow : OpenClaim := { program := "ytiiaocpkjmiacaa", sum := "d9ce551b60680bcf5c3fceb0d9f078ff55222ed5e088ad0097de4d0ff8293d99", func := "floodgate/floodgatelaw29.ScriptEncodes", spec := "scriptEncodes", unfollowed := true, recurses := true, apart := false, narrowed := true }
def ScriptEncodesUptoSaid : Prop := scriptEncodesUptoRow.holds Try.pinned (OpenSpec.upto scriptEncodesSpec)

/-- 'floodgatelaw29.ScriptBack', WHERE WHAT IT READS IS OF BULK AT MOST 1048576: true; the input reads as it did. -/
def scriptBackUptoRow : OpenClaim := { program := "ytiiaocpkjmiacaa", sum := "d9ce551b60680bcf5c3fceb0d9f078ff55222ed5e088ad0097de4d0ff8293d99", func := "floodgate/floodgatelaw29.ScriptBack", spec := "scriptBack", unfollowed := true, recurses := true, apart := false, narrowed := true }
def ScriptBackUptoSaid : Prop := scriptBackUptoRow.holds Try.pinned (OpenSpec.upto scriptBackSpec)

/-- 'floodgatelaw29.ScriptForth', WHERE WHAT IT READS IS OF BULK AT MOST 1048576: true; the input reads as it did. -/
def scriptForthUptoRow : OpenClaim := { program := "ytiiaocpkjmiacaa", sum := "d9ce551b60680bcf5c3fceb0d9f078ff55222ed5e088ad0097de4d0ff8293d99", func := "floodgate/floodgatelaw29.ScriptForth", spec := "scriptForth", unfollowed := true, recurses := true, apart := false, narrowed := true }
def ScriptForthUptoSaid : Prop := scriptForthUptoRow.holds Try.pinned (OpenSpec.upto scriptForthSpec)

/-- 'floodgatelaw31.SpansBelow', WHERE WHAT IT READS IS OF BULK AT MOST 1048576: true; the input reads as it did. -/
def spansBelowUptoRow : OpenClaim := { program := "ytiiaocpkjmiacaa", sum := "d9ce551b60680bcf5c3fceb0d9f078ff55222ed5e088ad0097de4d0ff8293d99", func := "floodgate/floodgatelaw31.SpansBelow", spec := "spansBelow", unfollowed := true, recurses := true, apart := false, narrowed := true }
def SpansBelowUptoSaid : Prop := spansBelowUptoRow.holds Try.pinned (OpenSpec.upto spansBelowSpec)

end Rows
end Go.Proofs.Ytiiaocpkjmiacaa
