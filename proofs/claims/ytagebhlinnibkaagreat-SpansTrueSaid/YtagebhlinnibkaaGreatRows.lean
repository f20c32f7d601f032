/-
  No cell of these rows narrows 'for every input' (looked for: loops, veiled, ifaces, maps, wideKeys, modest, calm, conditions, laid).
  DERIVED. THE GIVEN ROWS OF THIS SEAT. 8 by the template 'for every input the law returns true; each argument reads behind the call as it read before'; 0 by the template 'total and deterministic' (their statements: YtagebhlinnibkaaGreatTotals.lean).
  GIVEN WITH THE SEED: the statements are not yours to turn. If you find one false, say at which input.
  Laid BY PROGRAM, IN A SANDBOX (cutbox-rows.mjs): the forced cells as the released guide's own fill.sh prints them over the translation f6664920cf9ed2f6… (all of the seat's roots in one cut). By AI agents, Wed Nov 11 2026. No macro, syntax, notation, axiom, sorry.
-/
import Derived.Test.YtagebhlinnibkaaGreatChecked
import GoSem.Claim
import GoSem.ClaimJoined
import GoSem.ClaimMapViews
import Derived.JoinedTies
import Derived.KernelRfl
namespace Go.Proofs.YtagebhlinnibkaaGreat
/- THE CELL 'sum', in the pinned program and in every row, IS THE sha256 OF THE DUMP (.gsa) THAT YtagebhlinnibkaaGreatProg.lean LOADS. Nothing in Lean hashes anything: it is a label: what it is worth is what the hold of that sum in a sandbox is worth. -/
noncomputable def Tryz.pinned : Pinned := { name := "ytagebhlinnibkaagreat", sum := "f6664920cf9ed2f6bd661263331ca5c081c8f369a779bb2a62772aa353691cf2", checked := Tryz.checked }
namespace Rows
def none {H : Type} : Left H := { results := [], args := [] }

/-- 'floodgatelaw35.BusyWorks': WHATEVER THE INPUT: true; the input reads as it did. -/
def busyWorksSpec : ChangeSpec := { name := "busyWorks", fn := fun _ => fun
  | [d] => { results := [.lit (.bool true)], args := [d] }
  | _ => none }
def busyWorksRow : OpenClaim := { program := "ytagebhlinnibkaagreat", sum := "f6664920cf9ed2f6bd661263331ca5c081c8f369a779bb2a62772aa353691cf2", func := "floodgate/floodgatelaw35.BusyWorks", spec := "busyWorks", inPlace := ["maps.clone"], unfollowed := true, recurses := true, plainKeys := false, apart := false }
def BusyWorksSaid : Prop := busyWorksRow.holds Tryz.pinned (OpenSpec.ofChange busyWorksSpec)

/-- ITS FALSE NEIGHBOUR: 'it returns false'. Refute it at one input. -/
def busyWorksWrong : ChangeSpec := { name := "busyWorks", fn := fun _ => fun
  | [d] => { results := [.lit (.bool false)], args := [d] }
  | _ => none }
def BusyWorksWrongFalsely : Prop := busyWorksRow.holds Tryz.pinned (OpenSpec.ofChange busyWorksWrong)

/-- 'floodgatelaw35.BusyEnds': WHATEVER THE INPUT: true; the input reads as it did. -/
def busyEndsSpec : ChangeSpec := { name := "busyEnds", fn := fun _ => fun
  | [d1, d2] => { results := [.lit (.bool true)], args := [d1, d2] }
  | _ => none }
def busyEndsRow : OpenClaim := { program := "ytagebhlinnibkaagreat", sum := "f6664920cf9ed2f6bd661263331ca5c081c8f369a779bb2a62772aa353691cf2", func := "floodgate/floodgatelaw35.BusyEnds", spec := "busyEnds", inPlace := ["maps.clone"], unfollowed := true, recurses := true, plainKeys := false, apart := false }
def BusyEndsSaid : Prop := busyEndsRow.holds Tryz.pinned (OpenSpec.ofChange busyEndsSpec)

/-- ITS FALSE NEIGHBOUR: 'it returns false'. Refute it at one input. -/
def busyEndsWrong : ChangeSpec := { name := "busyEnds", fn := fun _ => fun
  | [d1, d2] => { results := [.lit (.bool false)], args := [d1, d2] }
  | _ => none }
def BusyEndsWrongFalsely : Prop := busyEndsRow.holds Tryz.pinned (OpenSpec.ofChange busyEndsWrong)

/-- 'floodgatelaw36.AuditClean': WHATEVER THE INPUT: true; the input reads as it did. -/
def auditCleanSpec : ChangeSpec := { name := "auditClean", fn := fun _ => fun
  | [d] => { results := [.lit (.bool true)], args := [d] }
  | _ => none }
def auditCleanRow : OpenClaim := { program := "ytagebhlinnibkaagreat", sum := "f6664920cf9ed2f6bd661263331ca5c081c8f369a779bb2a62772aa353691cf2", func := "floodgate/floodgatelaw36.AuditClean", spec := "auditClean", inPlace := ["maps.clone"], unfollowed := true, recurses := true, plainKeys := false, apart := false }
def AuditCleanSaid : Prop := auditCleanRow.holds Tryz.pinned (OpenSpec.ofChange auditCleanSpec)

/-- ITS FALSE NEIGHBOUR: 'it returns false'. Refute it at one input. -/
def auditCleanWrong : ChangeSpec := { name := "auditClean", fn := fun _ => fun
  | [d] => { results := [.lit (.bool false)], args := [d] }
  | _ => none }
def AuditCleanWrongFalsely : Prop := auditCleanRow.holds Tryz.pinned (OpenSpec.ofChange auditCleanWrong)

/-- 'floodgatelaw28.TopTicks': WHATEVER THE INPUT: true; the input reads as it did. -/
def topTicksSpec : ChangeSpec := { name := "topTicks", fn := fun _ => fun
  | [d1, d2, d3] => { results := [.lit (.bool true)], args := [d1, d2, d3] }
  | _ => none }
def topTicksRow : OpenClaim := { program := "ytagebhlinnibkaagreat", sum := "f6664920cf9ed2f6bd661263331ca5c081c8f369a779bb2a62772aa353691cf2", func := "floodgate/floodgatelaw28.TopTicks", spec := "topTicks", inPlace := ["maps.clone"], unfollowed := true, recurses := true, plainKeys := false, apart := false }
def TopTicksSaid : Prop := topTicksRow.holds Tryz.pinned (OpenSpec.ofChange topTicksSpec)

/-- ITS FALSE NEIGHBOUR: 'it returns false'. Refute it at one input. -/
def topTicksWrong : ChangeSpec := { name := "topTicks", fn := fun _ => fun
  | [d1, d2, d3] => { results := [.lit (.bool false)], args := [d1, d2, d3] }
  | _ => none }
def TopTicksWrongFalsely : Prop := topTicksRow.holds Tryz.pinned (OpenSpec.ofChange topTicksWrong)

/-- 'floodgatelaw28.TopRefused': WHATEVER THE INPUT: true; the input reads as it did. -/
def topRefusedSpec : ChangeSpec := { name := "topRefused", fn := fun _ => fun
  | [d1, d2] => { results := [.lit (.bool true)], args := [d1, d2] }
  | _ => none }
def topRefusedRow : OpenClaim := { program := "ytagebhlinnibkaagreat", sum := "f6664920cf9ed2f6bd661263331ca5c081c8f369a779bb2a62772aa353691cf2", func := "floodgate/floodgatelaw28.TopRefused", spec := "topRefused", inPlace := ["maps.clone"], unfollowed := true, recurses := true, plainKeys := false, apart := false }
def TopRefusedSaid : Prop := topRefusedRow.holds Tryz.pinned (OpenSpec.ofChange topRefusedSpec)

/-- ITS FALSE NEIGHBOUR: 'it returns false'. Refute it at one input. -/
def topRefusedWrong : ChangeSpec := { name := "topRefused", fn := fun _ => fun
  | [d1, d2] => { results := [.lit (.bool false)], args := [d1, d2] }
  | _ => none }
def TopRefusedWrongFalsely : Prop := topRefusedRow.holds Tryz.pinned (OpenSpec.ofChange topRefusedWrong)

/-- 'floodgatelaw41.SweepRuns': WHATEVER THE INPUT: true; the input reads as it did. -/
def sweepRunsSpec : ChangeSpec := { name := "sweepRuns", fn := fun _ => fun
  | [d] => { results := [.lit (.bool true)], args := [d] }
  | _ => none }
def sweepRunsRow : OpenClaim := { program := "ytagebhlinnibkaagreat", sum := "f6664920cf9ed2f6bd661263331ca5c081c8f369a779bb2a62772aa353691cf2", func := "floodgate/floodgatelaw41.SweepRuns", spec := "sweepRuns", inPlace := ["maps.clone"], unfollowed := true, recurses := true, plainKeys := false, apart := false }
def SweepRunsSaid : Prop := sweepRunsRow.holds Tryz.pinned (OpenSpec.ofChange sweepRunsSpec)

/-- ITS FALSE NEIGHBOUR: 'it returns false'. Refute it at one input. -/
def sweepRunsWrong : ChangeSpec := { name := "sweepRuns", fn := fun _ => fun
  | [d] => { results := [.lit (.bool false)], args := [d] }
  | _ => none }
def SweepRunsWrongFalsely : Prop := sweepRunsRow.holds Tryz.pinned (OpenSpec.ofChange sweepRunsWrong)

/-- 'floodgatelaw31.SpansTrue': WHATEVER THE INPUT: true; the input reads as it did. -/
def spansTrueSpec : ChangeSpec := { name := "spansTrue", fn := fun _ => fun
  | [d1, d2] => { results := [.lit (.bool true)], args := [d1, d2] }
  | _ => none }
def spansTrueRow : OpenClaim := { program := "ytagebhlinnibkaagreat", sum := "f6664920cf9ed2f6bd661263331ca5c081c8f369a779bb2a62772aa353691cf2", func := "floodgate/floodgatelaw31.SpansTrue", spec := "spansTrue", inPlace := ["maps.clone"], unfollowed := true, recurses := true, plainKeys := false, apart := false }
def SpansTrueSaid : Prop := spansTrueRow.holds Tryz.pinned (OpenSpec.ofChange spansTrueSpec)

/-- ITS FALSE NEIGHBOUR: 'it returns false'. Refute it at one input. -/
def spansTrueWrong : ChangeSpec := { name := "spansTrue", fn := fun _ => fun
  | [d1, d2] => { results := [.lit (.bool false)], args := [d1, d2] }
  | _ => none }
def SpansTrueWrongFalsely : Prop := spansTrueRow.holds Tryz.pinned (OpenSpec.ofChange spansTrueWrong)

/-- 'floodgatetop.WholeDrains': WHATEVER THE INPUT: true; the input reads as it did. -/
def wholeDrainsSpec : ChangeSpec := { name := "wholeDrains", fn := fun _ => fun
  | [d1, d2] => { results := [.lit (.bool true)], args := [d1, d2] }
  | _ => none }
def wholeDrainsRow : OpenClaim := { program := "ytagebhlinnibkaagreat", sum := "f6664920cf9ed2f6bd661263331ca5c081c8f369a779bb2a62772aa353691cf2", func := "floodgate/floodgatetop.WholeDrains", spec := "wholeDrains", inPlace := ["maps.clone"], unfollowed := true, recurses := true, plainKeys := false, apart := false }
def WholeDrainsSaid : Prop := wholeDrainsRow.holds Tryz.pinned (OpenSpec.ofChange wholeDrainsSpec)

/-- ITS FALSE NEIGHBOUR: 'it returns false'. Refute it at one input. -/
def wholeDrainsWrong : ChangeSpec := { name := "wholeDrains", fn := fun _ => fun
  | [d1, d2] => { results := [.lit (.bool false)], args := [d1, d2] }
  | _ => none }
def WholeDrainsWrongFalsely : Prop := wholeDrainsRow.holds Tryz.pinned (OpenSpec.ofChange wholeDrainsWrong)

/- THE SECOND FORM. 'bulk': how many values and letters a reading holds, each counted each time it is reached (what is shared counts as often as it is met; a slice's spare places count too). A statement '..UptoSaid' is the law's where the arguments, and the package variables that the reading takes, are together of bulk at most 1048576: NARROWER than '..Said'. Prove '..Said' where nothing that the law and all that it calls make is longer than what came in: it says more and counts as full. Else prove '..UptoSaid'. A law counts once. -/
mutual
def uptoBulk {H : Type} : DataW H → Nat
  | .lit (.string bytes) => bytes.length + 1
  | .lit _ => 1
  | .nil => 1
  | .ptr d => uptoBulk d + 1
  | .slice elems spare => uptoBulkAll elems + uptoBulkAll spare + 1
  | .agg parts => uptoBulkAll parts + 1
  | .iface _ d => uptoBulk d + 1
  | .map entries => uptoBulkEntries entries + 1
  | .held _ => 1
def uptoBulkAll {H : Type} : List (DataW H) → Nat
  | [] => 0
  | d :: r => uptoBulk d + uptoBulkAll r
def uptoBulkEntries {H : Type} : List (Lit × DataW H) → Nat
  | [] => 0
  | x :: r => uptoBulkEntry x + uptoBulkEntries r
def uptoBulkEntry {H : Type} : Lit × DataW H → Nat
  | (.string bytes, d) => bytes.length + uptoBulk d + 1
  | (_, d) => uptoBulk d + 1
 end
def uptoSmall : (H : Type) → List (DataW H) → Bool := fun _ ds => decide (uptoBulkAll ds ≤ 1048576)
def OpenSpec.upto (s : _root_.Go.ChangeSpec) : _root_.Go.OpenSpec := { _root_.Go.OpenSpec.ofChange s with cond := some uptoSmall }

/-- 'floodgatelaw35.BusyWorks', WHERE WHAT IT READS IS OF BULK AT MOST 1048576: true; the input reads as it did. -/
def busyWorksUptoRow : OpenClaim := { program := "ytagebhlinnibkaagreat", sum := "f6664920cf9ed2f6bd661263331ca5c081c8f369a779bb2a62772aa353691cf2", func := "floodgate/floodgatelaw35.BusyWorks", spec := "busyWorks", inPlace := ["maps.clone"], unfollowed := true, recurses := true, plainKeys := false, apart := false, narrowed := true }
def BusyWorksUptoSaid : Prop := busyWorksUptoRow.holds Tryz.pinned (OpenSpec.upto busyWorksSpec)

/-- 'floodgatelaw35.BusyEnds', WHERE WHAT IT READS IS OF BULK AT MOST 1048576: true; the input reads as it did. -/
def busyEndsUptoRow : OpenClaim := { program := "ytagebhlinnibkaagreat", sum := "f6664920cf9ed2f6bd661263331ca5c081c8f369a779bb2a62772aa353691cf2", func := "floodgate/floodgatelaw35.BusyEnds", spec := "busyEnds", inPlace := ["maps.clone"], unfollowed := true, recurses := true, plainKeys := false, apart := false, narrowed := true }
def BusyEndsUptoSaid : Prop := busyEndsUptoRow.holds Tryz.pinned (OpenSpec.upto busyEndsSpec)

/-- 'floodgatelaw36.AuditClean', WHERE WHAT IT READS IS OF BULK AT MOST 1048576: true; the input reads as it did. -/
def auditCleanUptoRow : OpenClaim := { program := "ytagebhlinnibkaagreat", sum := "f6664920cf9ed2f6bd661263331ca5c081c8f369a779bb2a62772aa353691cf2", func := "floodgate/floodgatelaw36.AuditClean", spec := "auditClean", inPlace := ["maps.clone"], unfollowed := true, recurses := true, plainKeys := false, apart := false, narrowed := true }
def AuditCleanUptoSaid : Prop := auditCleanUptoRow.holds Tryz.pinned (OpenSpec.upto auditCleanSpec)

/-- 'floodgatelaw28.TopTicks', WHERE WHAT IT READS IS OF BULK AT MOST 1048576: true; the input reads as it did. -/
def topTicksUptoRow : OpenClaim := { program := "ytagebhlinnibkaagreat", sum := "f6664920cf9ed2f6bd661263331ca5c081c8f369a779bb2a62772aa353691cf2", func := "floodgate/floodgatelaw28.TopTicks", spec := "topTicks", inPlace := ["maps.clone"], unfollowed := true, recurses := true, plainKeys := false, apart := false, narrowed := true }
def TopTicksUptoSaid : Prop := topTicksUptoRow.holds Tryz.pinned (OpenSpec.upto topTicksSpec)

/-- 'floodgatelaw28.TopRefused', WHERE WHAT IT READS IS OF BULK AT MOST 1048576: true; the input reads as it did. -/
def topRefusedUptoRow : OpenClaim := { program := "ytagebhlinnibkaagreat", sum := "f6664920cf9ed2f6bd661263331ca5c081c8f369a779bb2a62772aa353691cf2", func := "floodgate/floodgatelaw28.TopRefused", spec := "topRefused", inPlace := ["maps.clone"], unfollowed := true, recurses := true, plainKeys := false, apart := false, narrowed := true }
def TopRefusedUptoSaid : Prop := topRefusedUptoRow.holds Tryz.pinned (OpenSpec.upto topRefusedSpec)

/-- 'floodgatelaw41.SweepRuns', WHERE WHAT IT READS IS OF BULK AT MOST 1048576: true; the input reads as it did. -/
def sweepRunsUptoRow : OpenClaim := { program := "ytagebhlinnibkaagreat", sum := "f6664920cf9ed2f6bd661263331ca5c081c8f369a779bb2a62772aa353691cf2", func := "floodgate/floodgatelaw41.SweepRuns", spec := "sweepRuns", inPlace := ["maps.clone"], unfollowed := true, recurses := true, plainKeys := false, apart := false, narrowed := true }
def SweepRunsUptoSaid : Prop := sweepRunsUptoRow.holds Tryz.pinned (OpenSpec.upto sweepRunsSpec)

/-- 'floodgatelaw31.SpansTrue', WHERE WHAT IT READS IS OF BULK AT MOST 1048576: true; the input reads as it did. -/
def spansTrueUptoRow : OpenClaim := { program := "ytagebhlinnibkaagreat", sum := "f6664920cf9ed2f6bd661263331ca5c081c8f369a779bb2a62772aa353691cf2", func := "floodgate/floodgatelaw31.SpansTrue", spec := "spansTrue", inPlace := ["maps.clone"], unfollowed := true, recurses := true, plainKeys := false, apart := false, narrowed := true }
def SpansTrueUptoSaid : Prop := spansTrueUptoRow.holds Tryz.pinned (OpenSpec.upto spansTrueSpec)

/-- 'floodgatetop.WholeDrains', WHERE WHAT IT READS IS OF BULK AT MOST 1048576: true; the input reads as it did. -/
def wholeDrainsUptoRow : OpenClaim := { program := "ytagebhlinnibkaagreat", sum := "f6664920cf9ed2f6bd661263331ca5c081c8f369a779bb2a62772aa353691cf2", func := "floodgate/floodgatetop.WholeDrains", spec := "wholeDrains", inPlace := ["maps.clone"], unfollowed := true, recurses := true, plainKeys := false, apart := false, narrowed := true }
def WholeDrainsUptoSaid : Prop := wholeDrainsUptoRow.holds Tryz.pinned (OpenSpec.upto wholeDrainsSpec)

end Rows
end Go.Proofs.YtagebhlinnibkaaGreat
