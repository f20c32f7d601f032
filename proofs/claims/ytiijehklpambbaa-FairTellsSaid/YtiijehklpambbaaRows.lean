/-
  No cell of these rows narrows 'for every input' (looked for: loops, veiled, ifaces, maps, wideKeys, modest, calm, conditions, laid).
  DERIVED. THE GIVEN ROWS OF THIS SEAT. 12 by the template 'for every input the law returns true; each argument reads behind the call as it read before'; 0 by the template 'total and deterministic' (their statements: YtiijehklpambbaaTotals.lean).
  GIVEN WITH THE SEED: the statements are not yours to turn. If you find one false, say at which input.
  Laid BY PROGRAM, IN A SANDBOX (cutbox-rows.mjs): the forced cells as the released guide's own fill.sh prints them over the translation 52ee933f88e5c4a7… (all of the seat's roots in one cut). By AI agents, Wed Nov 11 2026. No macro, syntax, notation, axiom, sorry.
-/
import Derived.Test.YtiijehklpambbaaChecked
import GoSem.Claim
import GoSem.ClaimJoined
import GoSem.ClaimMapViews
import Derived.JoinedTies
import Derived.KernelRfl
namespace Go.Proofs.Ytiijehklpambbaa
/- THE CELL 'sum', in the pinned program and in every row, IS THE sha256 OF THE DUMP (.gsa) THAT YtiijehklpambbaaProg.lean LOADS. Nothing in Lean hashes anything: it is a label: what it is worth is what the hold of that sum in a sandbox is worth. -/
noncomputable def Try.pinned : Pinned := { name := "ytiijehklpambbaa", sum := "52ee933f88e5c4a7042619eb80b0043cfa73a49782ab9f877299b77d1c80ac14", checked := Try.checked }
namespace Rows
def none {H : Type} : Left H := { results := [], args := [] }

/-- 'floodgatelaw31.SpansApart': WHATEVER THE INPUT: true; the input reads as it did. -/
def spansApartSpec : ChangeSpec := { name := "spansApart", fn := fun _ => fun
  | [d1, d2] => { results := [.lit (.bool true)], args := [d1, d2] }
  | _ => none }
def spansApartRow : OpenClaim := { program := "ytiijehklpambbaa", sum := "52ee933f88e5c4a7042619eb80b0043cfa73a49782ab9f877299b77d1c80ac14", func := "floodgate/floodgatelaw31.SpansApart", spec := "spansApart", unfollowed := true, recurses := true, apart := false }
def SpansApartSaid : Prop := spansApartRow.holds Try.pinned (OpenSpec.ofChange spansApartSpec)

/-- ITS FALSE NEIGHBOUR: 'it returns false'. Refute it at one input. -/
def spansApartWrong : ChangeSpec := { name := "spansApart", fn := fun _ => fun
  | [d1, d2] => { results := [.lit (.bool false)], args := [d1, d2] }
  | _ => none }
def SpansApartWrongFalsely : Prop := spansApartRow.holds Try.pinned (OpenSpec.ofChange spansApartWrong)

/-- 'floodgatelaw31.SpansOf': WHATEVER THE INPUT: true; the input reads as it did. -/
def spansOfSpec : ChangeSpec := { name := "spansOf", fn := fun _ => fun
  | [d1, d2] => { results := [.lit (.bool true)], args := [d1, d2] }
  | _ => none }
def spansOfRow : OpenClaim := { program := "ytiijehklpambbaa", sum := "52ee933f88e5c4a7042619eb80b0043cfa73a49782ab9f877299b77d1c80ac14", func := "floodgate/floodgatelaw31.SpansOf", spec := "spansOf", unfollowed := true, recurses := true, apart := false }
def SpansOfSaid : Prop := spansOfRow.holds Try.pinned (OpenSpec.ofChange spansOfSpec)

/-- ITS FALSE NEIGHBOUR: 'it returns false'. Refute it at one input. -/
def spansOfWrong : ChangeSpec := { name := "spansOf", fn := fun _ => fun
  | [d1, d2] => { results := [.lit (.bool false)], args := [d1, d2] }
  | _ => none }
def SpansOfWrongFalsely : Prop := spansOfRow.holds Try.pinned (OpenSpec.ofChange spansOfWrong)

/-- 'floodgatelaw41.SweepTells': WHATEVER THE INPUT: true; the input reads as it did. -/
def sweepTellsSpec : ChangeSpec := { name := "sweepTells", fn := fun _ => fun
  | [d] => { results := [.lit (.bool true)], args := [d] }
  | _ => none }
def sweepTellsRow : OpenClaim := { program := "ytiijehklpambbaa", sum := "52ee933f88e5c4a7042619eb80b0043cfa73a49782ab9f877299b77d1c80ac14", func := "floodgate/floodgatelaw41.SweepTells", spec := "sweepTells", apart := false }
def SweepTellsSaid : Prop := sweepTellsRow.holds Try.pinned (OpenSpec.ofChange sweepTellsSpec)

/-- ITS FALSE NEIGHBOUR: 'it returns false'. Refute it at one input. -/
def sweepTellsWrong : ChangeSpec := { name := "sweepTells", fn := fun _ => fun
  | [d] => { results := [.lit (.bool false)], args := [d] }
  | _ => none }
def SweepTellsWrongFalsely : Prop := sweepTellsRow.holds Try.pinned (OpenSpec.ofChange sweepTellsWrong)

/-- 'floodgatelaw41.SweepOnce': WHATEVER THE INPUT: true; the input reads as it did. -/
def sweepOnceSpec : ChangeSpec := { name := "sweepOnce", fn := fun _ => fun
  | [d] => { results := [.lit (.bool true)], args := [d] }
  | _ => none }
def sweepOnceRow : OpenClaim := { program := "ytiijehklpambbaa", sum := "52ee933f88e5c4a7042619eb80b0043cfa73a49782ab9f877299b77d1c80ac14", func := "floodgate/floodgatelaw41.SweepOnce", spec := "sweepOnce", apart := false }
def SweepOnceSaid : Prop := sweepOnceRow.holds Try.pinned (OpenSpec.ofChange sweepOnceSpec)

/-- ITS FALSE NEIGHBOUR: 'it returns false'. Refute it at one input. -/
def sweepOnceWrong : ChangeSpec := { name := "sweepOnce", fn := fun _ => fun
  | [d] => { results := [.lit (.bool false)], args := [d] }
  | _ => none }
def SweepOnceWrongFalsely : Prop := sweepOnceRow.holds Try.pinned (OpenSpec.ofChange sweepOnceWrong)

/-- 'floodgatelaw35.BusyTells': WHATEVER THE INPUT: true; the input reads as it did. -/
def busyTellsSpec : ChangeSpec := { name := "busyTells", fn := fun _ => fun
  | [d] => { results := [.lit (.bool true)], args := [d] }
  | _ => none }
def busyTellsRow : OpenClaim := { program := "ytiijehklpambbaa", sum := "52ee933f88e5c4a7042619eb80b0043cfa73a49782ab9f877299b77d1c80ac14", func := "floodgate/floodgatelaw35.BusyTells", spec := "busyTells", unfollowed := true, recurses := true, apart := false }
def BusyTellsSaid : Prop := busyTellsRow.holds Try.pinned (OpenSpec.ofChange busyTellsSpec)

/-- ITS FALSE NEIGHBOUR: 'it returns false'. Refute it at one input. -/
def busyTellsWrong : ChangeSpec := { name := "busyTells", fn := fun _ => fun
  | [d] => { results := [.lit (.bool false)], args := [d] }
  | _ => none }
def BusyTellsWrongFalsely : Prop := busyTellsRow.holds Try.pinned (OpenSpec.ofChange busyTellsWrong)

/-- 'floodgatelaw36.AuditChecks': WHATEVER THE INPUT: true; the input reads as it did. -/
def auditChecksSpec : ChangeSpec := { name := "auditChecks", fn := fun _ => fun
  | [d1, d2] => { results := [.lit (.bool true)], args := [d1, d2] }
  | _ => none }
def auditChecksRow : OpenClaim := { program := "ytiijehklpambbaa", sum := "52ee933f88e5c4a7042619eb80b0043cfa73a49782ab9f877299b77d1c80ac14", func := "floodgate/floodgatelaw36.AuditChecks", spec := "auditChecks", unfollowed := true, recurses := true, apart := false }
def AuditChecksSaid : Prop := auditChecksRow.holds Try.pinned (OpenSpec.ofChange auditChecksSpec)

/-- ITS FALSE NEIGHBOUR: 'it returns false'. Refute it at one input. -/
def auditChecksWrong : ChangeSpec := { name := "auditChecks", fn := fun _ => fun
  | [d1, d2] => { results := [.lit (.bool false)], args := [d1, d2] }
  | _ => none }
def AuditChecksWrongFalsely : Prop := auditChecksRow.holds Try.pinned (OpenSpec.ofChange auditChecksWrong)

/-- 'floodgatelaw36.AuditWaits': WHATEVER THE INPUT: true; the input reads as it did. -/
def auditWaitsSpec : ChangeSpec := { name := "auditWaits", fn := fun _ => fun
  | [d1, d2] => { results := [.lit (.bool true)], args := [d1, d2] }
  | _ => none }
def auditWaitsRow : OpenClaim := { program := "ytiijehklpambbaa", sum := "52ee933f88e5c4a7042619eb80b0043cfa73a49782ab9f877299b77d1c80ac14", func := "floodgate/floodgatelaw36.AuditWaits", spec := "auditWaits", unfollowed := true, recurses := true, apart := false }
def AuditWaitsSaid : Prop := auditWaitsRow.holds Try.pinned (OpenSpec.ofChange auditWaitsSpec)

/-- ITS FALSE NEIGHBOUR: 'it returns false'. Refute it at one input. -/
def auditWaitsWrong : ChangeSpec := { name := "auditWaits", fn := fun _ => fun
  | [d1, d2] => { results := [.lit (.bool false)], args := [d1, d2] }
  | _ => none }
def AuditWaitsWrongFalsely : Prop := auditWaitsRow.holds Try.pinned (OpenSpec.ofChange auditWaitsWrong)

/-- 'floodgatelaw36.AuditEnough': WHATEVER THE INPUT: true; the input reads as it did. -/
def auditEnoughSpec : ChangeSpec := { name := "auditEnough", fn := fun _ => fun
  | [d1, d2, d3] => { results := [.lit (.bool true)], args := [d1, d2, d3] }
  | _ => none }
def auditEnoughRow : OpenClaim := { program := "ytiijehklpambbaa", sum := "52ee933f88e5c4a7042619eb80b0043cfa73a49782ab9f877299b77d1c80ac14", func := "floodgate/floodgatelaw36.AuditEnough", spec := "auditEnough", unfollowed := true, recurses := true, apart := false }
def AuditEnoughSaid : Prop := auditEnoughRow.holds Try.pinned (OpenSpec.ofChange auditEnoughSpec)

/-- ITS FALSE NEIGHBOUR: 'it returns false'. Refute it at one input. -/
def auditEnoughWrong : ChangeSpec := { name := "auditEnough", fn := fun _ => fun
  | [d1, d2, d3] => { results := [.lit (.bool false)], args := [d1, d2, d3] }
  | _ => none }
def AuditEnoughWrongFalsely : Prop := auditEnoughRow.holds Try.pinned (OpenSpec.ofChange auditEnoughWrong)

/-- 'floodgatelaw33.FairTells': WHATEVER THE INPUT: true; the input reads as it did. -/
def fairTellsSpec : ChangeSpec := { name := "fairTells", fn := fun _ => fun
  | [d1, d2, d3] => { results := [.lit (.bool true)], args := [d1, d2, d3] }
  | _ => none }
def fairTellsRow : OpenClaim := { program := "ytiijehklpambbaa", sum := "52ee933f88e5c4a7042619eb80b0043cfa73a49782ab9f877299b77d1c80ac14", func := "floodgate/floodgatelaw33.FairTells", spec := "fairTells", apart := false }
def FairTellsSaid : Prop := fairTellsRow.holds Try.pinned (OpenSpec.ofChange fairTellsSpec)

/-- ITS FALSE NEIGHBOUR: 'it returns false'. Refute it at one input. -/
def fairTellsWrong : ChangeSpec := { name := "fairTells", fn := fun _ => fun
  | [d1, d2, d3] => { results := [.lit (.bool false)], args := [d1, d2, d3] }
  | _ => none }
def FairTellsWrongFalsely : Prop := fairTellsRow.holds Try.pinned (OpenSpec.ofChange fairTellsWrong)

/-- 'floodgatelaw34.LimitTells': WHATEVER THE INPUT: true; the input reads as it did. -/
def limitTellsSpec : ChangeSpec := { name := "limitTells", fn := fun _ => fun
  | [d1, d2, d3] => { results := [.lit (.bool true)], args := [d1, d2, d3] }
  | _ => none }
def limitTellsRow : OpenClaim := { program := "ytiijehklpambbaa", sum := "52ee933f88e5c4a7042619eb80b0043cfa73a49782ab9f877299b77d1c80ac14", func := "floodgate/floodgatelaw34.LimitTells", spec := "limitTells", apart := false }
def LimitTellsSaid : Prop := limitTellsRow.holds Try.pinned (OpenSpec.ofChange limitTellsSpec)

/-- ITS FALSE NEIGHBOUR: 'it returns false'. Refute it at one input. -/
def limitTellsWrong : ChangeSpec := { name := "limitTells", fn := fun _ => fun
  | [d1, d2, d3] => { results := [.lit (.bool false)], args := [d1, d2, d3] }
  | _ => none }
def LimitTellsWrongFalsely : Prop := limitTellsRow.holds Try.pinned (OpenSpec.ofChange limitTellsWrong)

/-- 'floodgatelaw29.ScriptDecodes': WHATEVER THE INPUT: true; the input reads as it did. -/
def scriptDecodesSpec : ChangeSpec := { name := "scriptDecodes", fn := fun _ => fun
  | [d] => { results := [.lit (.bool true)], args := [d] }
  | _ => none }
def scriptDecodesRow : OpenClaim := { program := "ytiijehklpambbaa", sum := "52ee933f88e5c4a7042619eb80b0043cfa73a49782ab9f877299b77d1c80ac14", func := "floodgate/floodgatelaw29.ScriptDecodes", spec := "scriptDecodes", unfollowed := true, recurses := true, apart := false }
def ScriptDecodesSaid : Prop := scriptDecodesRow.holds Try.pinned (OpenSpec.ofChange scriptDecodesSpec)

/-- ITS FALSE NEIGHBOUR: 'it returns false'. Refute it at one input. -/
def scriptDecodesWrong : ChangeSpec := { name := "scriptDecodes", fn := fun _ => fun
  | [d] => { results := [.lit (.bool false)], args := [d] }
  | _ => none }
def ScriptDecodesWrongFalsely : Prop := scriptDecodesRow.holds Try.pinned (OpenSpec.ofChange scriptDecodesWrong)

/-- 'floodgatelaw48.ConformBursts': WHATEVER THE INPUT: true; the input reads as it did. -/
def conformBurstsSpec : ChangeSpec := { name := "conformBursts", fn := fun _ => fun
  | [d1, d2, d3] => { results := [.lit (.bool true)], args := [d1, d2, d3] }
  | _ => none }
def conformBurstsRow : OpenClaim := { program := "ytiijehklpambbaa", sum := "52ee933f88e5c4a7042619eb80b0043cfa73a49782ab9f877299b77d1c80ac14", func := "floodgate/floodgatelaw48.ConformBursts", spec := "conformBursts", unfollowed := true, recurses := true, apart := false }
def ConformBurstsSaid : Prop := conformBurstsRow.holds Try.pinned (OpenSpec.ofChange conformBurstsSpec)

/-- ITS FALSE NEIGHBOUR: 'it returns false'. Refute it at one input. -/
def conformBurstsWrong : ChangeSpec := { name := "conformBursts", fn := fun _ => fun
  | [d1, d2, d3] => { results := [.lit (.bool false)], args := [d1, d2, d3] }
  | _ => none }
def ConformBurstsWrongFalsely : Prop := conformBurstsRow.holds Try.pinned (OpenSpec.ofChange conformBurstsWrong)

/- THE SECOND FORM. 'bulk': how many values and letters a reading holds, each counted each time it is reached (what is shared counts as often as it is met; a slice's spare places count too). A statement '..UptoSaid' is the law's where the arguments, and the package variables that the reading takes, are together of bulk at most 1048576: NARROWER than '..Said'. Prove '..Said' where nothing that the law and all that it calls make is longer than what came in: it says more and counts as full. Else prove '..UptoSaid'. A law counts once. -/
mutual
def uptoBulk {H : Type} : DataW H → Nat
  | .lit (.string bytes) => bytes.length + 1
  | .lit _ => 1
  | .nil => 1
  | .ptr d => uptoBulk d + 1
  | .slice elems spare => uptoBulkAll elems + uptoBulkAll spare + 1
  | .agg parts => uptoBulkAll parts + 1
  | .iface _ d => uptoBulk d + 1
  | .map entries => uptoBulkEntries entries + 1
  | .held _ => 1
def uptoBulkAll {H : Type} : List (DataW H) → Nat
  | [] => 0
  | d :: r => uptoBulk d + uptoBulkAll r
def uptoBulkEntries {H : Type} : List (Lit × DataW H) → Nat
  | [] => 0
  | x :: r => uptoBulkEntry x + uptoBulkEntries r
def uptoBulkEntry {H : Type} : Lit × DataW H → Nat
  | (.string bytes, d) => bytes.length + uptoBulk d + 1
  | (_, d) => uptoBulk d + 1
 end
def uptoSmall : (H : Type) → List (DataW H) → Bool := fun _ ds => decide (uptoBulkAll ds ≤ 1048576)
def OpenSpec.upto (s : _root_.Go.ChangeSpec) : _root_.Go.OpenSpec := { _root_.Go.OpenSpec.ofChange s with cond := some uptoSmall }

/-- 'floodgatelaw31.SpansApart', WHERE WHAT IT READS IS OF BULK AT MOST 1048576: true; the input reads as it did. -/
def spansApartUptoRow : OpenClaim := { program := "ytiijehklpambbaa", sum := "52ee933f88e5c4a7042619eb80b0043cfa73a49782ab9f877299b77d1c80ac14", func := "floodgate/floodgatelaw31.SpansApart", spec := "spansApart", unfollowed := true, recurses := true, apart := false, narrowed := true }
def SpansApartUptoSaid : Prop := spansApartUptoRow.holds Try.pinned (OpenSpec.upto spansApartSpec)

/-- 'floodgatelaw31.SpansOf', WHERE WHAT IT READS IS OF BULK AT MOST 1048576: true; the input reads as it did. -/
def spansOfUptoRow : OpenClaim := { program := "ytiijehklpambbaa", sum := "52ee933f88e5c4a7042619eb80b0043cfa73a49782ab9f877299b77d1c80ac14", func := "floodgate/floodgatelaw31.SpansOf", spec := "spansOf", unfollowed := true, recurses := true, apart := false, narrowed := true }
def SpansOfUptoSaid : Prop := spansOfUptoRow.holds Try.pinned (OpenSpec.upto spansOfSpec)

/-- 'floodgatelaw41.SweepTells', WHERE WHAT IT READS IS OF BULK AT MOST 1048576: true; the input reads as it did. -/
def sweepTellsUptoRow : OpenClaim := { program := "ytiijehklpambbaa", sum := "52ee933f88e5c4a7042619eb80b0043cfa73a49782ab9f877299b77d1c80ac14", func := "floodgate/floodgatelaw41.SweepTells", spec := "sweepTells", apart := false, narrowed := true }
def SweepTellsUptoSaid : Prop := sweepTellsUptoRow.holds Try.pinned (OpenSpec.upto sweepTellsSpec)

/-- 'floodgatelaw41.SweepOnce', WHERE WHAT IT READS IS OF BULK AT MOST 1048576: true; the input reads as it did. -/
def sweepOnceUptoRow : OpenClaim := { program := "ytiijehklpambbaa", sum := "52ee933f88e5c4a7042619eb80b0043cfa73a49782ab9f877299b77d1c80ac14", func := "floodgate/floodgatelaw41.SweepOnce", spec := "sweepOnce", apart := false, narrowed := true }
def SweepOnceUptoSaid : Prop := sweepOnceUptoRow.holds Try.pinned (OpenSpec.upto sweepOnceSpec)

/-- 'floodgatelaw35.BusyTells', WHERE WHAT IT READS IS OF BULK AT MOST 1048576: true; the input reads as it did. -/
def busyTellsUptoRow : OpenClaim := { program := "ytiijehklpambbaa", sum := "52ee933f88e5c4a7042619eb80b0043cfa73a49782ab9f877299b77d1c80ac14", func := "floodgate/floodgatelaw35.BusyTells", spec := "busyTells", unfollowed := true, recurses := true, apart := false, narrowed := true }
def BusyTellsUptoSaid : Prop := busyTellsUptoRow.holds Try.pinned (OpenSpec.upto busyTellsSpec)

/-- 'floodgatelaw36.AuditChecks', WHERE WHAT IT READS IS OF BULK AT MOST 1048576: true; the input reads as it did. -/
def auditChecksUptoRow : OpenClaim := { program := "ytiijehklpambbaa", sum := "52ee933f88e5c4a7042619eb80b0043cfa73a49782ab9f877299b77d1c80ac14", func := "floodgate/floodgatelaw36.AuditChecks", spec := "auditChecks", unfollowed := true, recurses := true, apart := false, narrowed := true }
def AuditChecksUptoSaid : Prop := auditChecksUptoRow.holds Try.pinned (OpenSpec.upto auditChecksSpec)

/-- 'floodgatelaw36.AuditWaits', WHERE WHAT IT READS IS OF BULK AT MOST 1048576: true; the input reads as it did. -/
def auditWaitsUptoRow : OpenClaim := { program := "ytiijehklpambbaa", sum := "52ee933f88e5c4a7042619eb80b0043cfa73a49782ab9f877299b77d1c80ac14", func := "floodgate/floodgatelaw36.AuditWaits", spec := "auditWaits", unfollowed := true, recurses := true, apart := false, narrowed := true }
def AuditWaitsUptoSaid : Prop := auditWaitsUptoRow.holds Try.pinned (OpenSpec.upto auditWaitsSpec)

/-- 'floodgatelaw36.AuditEnough', WHERE WHAT IT READS IS OF BULK AT MOST 1048576: true; the input reads as it did. -/
def auditEnoughUptoRow : OpenClaim := { program := "ytiijehklpambbaa", sum := "52ee933f88e5c4a7042619eb80b0043cfa73a49782ab9f877299b77d1c80ac14", func := "floodgate/floodgatelaw36.AuditEnough", spec := "auditEnough", unfollowed := true, recurses := true, apart := false, narrowed := true }
def AuditEnoughUptoSaid : Prop := auditEnoughUptoRow.holds Try.pinned (OpenSpec.upto auditEnoughSpec)

/-- 'floodgatelaw33.FairTells', WHERE WHAT IT READS IS OF BULK AT MOST 1048576: true; the input reads as it did. -/
def fairTellsUptoRow : OpenClaim := { program := "ytiijehklpambbaa", sum := "52ee933f88e5c4a7042619eb80b0043cfa73a49782ab9f877299b77d1c80ac14", func := "floodgate/floodgatelaw33.FairTells", spec := "fairTells", apart := false, narrowed := true }
def FairTellsUptoSaid : Prop := fairTellsUptoRow.holds Try.pinned (OpenSpec.upto fairTellsSpec)

/-- 'floodgatelaw34.LimitTells', WHERE WHAT IT READS IS OF BULK AT MOST 1048576: true; the input reads as it did. -/
def limitTellsUptoRow : OpenClaim := { program := "ytiijehklpambbaa", sum := "52ee933f88e5c4a7042619eb80b0043cfa73a49782ab9f877299b77d1c80ac14", func := "floodgate/floodgatelaw34.LimitTells", spec := "limitTells", apart := false, narrowed := true }
def LimitTellsUptoSaid : Prop := limitTellsUptoRow.holds Try.pinned (OpenSpec.upto limitTellsSpec)

/-- 'floodgatelaw29.ScriptDecodes', WHERE WHAT IT READS IS OF BULK AT MOST 1048576: true; the input reads as it did. -/
def scriptDecodesUptoRow : OpenClaim := { program := "ytiijehklpambbaa", sum := "52ee933f88e5c4a7042619eb80b0043cfa73a49782ab9f877299b77d1c80ac14", func := "floodgate/floodgatelaw29.ScriptDecodes", spec := "scriptDecodes", unfollowed := true, recurses := true, apart := false, narrowed := true }
def ScriptDecodesUptoSaid : Prop := scriptDecodesUptoRow.holds Try.pinned (OpenSpec.upto scriptDecodesSpec)

/-- 'floodgatelaw48.ConformBursts', WHERE WHAT IT READS IS OF BULK AT MOST 1048576: true; the input reads as it did. -/
def conformBurstsUptoRow : OpenClaim := { program := "ytiijehklpambbaa", sum := "52ee933f88e5c4a7042619eb80b0043cfa73a49782ab9f877299b77d1c80ac14", func := "floodgate/floodgatelaw48.ConformBursts", spec := "conformBursts", unfollowed := true, recurses := true, apart := false, narrowed := true }
def ConformBurstsUptoSaid : Prop := conformBurstsUptoRow.holds Try.pinned (OpenSpec.upto conformBurstsSpec)

end Rows
end Go.Proofs.Ytiijehklpambbaa
