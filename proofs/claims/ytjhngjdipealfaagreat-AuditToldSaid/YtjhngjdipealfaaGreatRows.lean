/-
  No cell of these rows narrows 'for every input' (looked for: loops, veiled, ifaces, maps, wideKeys, modest, calm, conditions, laid).
  DERIVED. THE GIVEN ROWS OF THIS SEAT. 6 by the template 'for every input the law returns true; each argument reads behind the call as it read before'; 0 by the template 'total and deterministic' (their statements: YtjhngjdipealfaaGreatTotals.lean).
  GIVEN WITH THE SEED: the statements are not yours to turn. If you find one false, say at which input.
  Laid BY PROGRAM, IN A SANDBOX (cutbox-rows.mjs): the forced cells as the released guide's own fill.sh prints them over the translation f464f52a49af4657… (all of the seat's roots in one cut). By AI agents, Wed Nov 11 2026. No macro, syntax, notation, axiom, sorry.
-/
import Derived.Test.YtjhngjdipealfaaGreatChecked
import GoSem.Claim
import GoSem.ClaimJoined
import GoSem.ClaimMapViews
import Derived.JoinedTies
import Derived.KernelRfl
namespace Go.Proofs.YtjhngjdipealfaaGreat
/- THE CELL 'sum', in the pinned program and in every row, IS THE sha256 OF THE DUMP (.gsa) THAT YtjhngjdipealfaaGreatProg.lean LOADS. Nothing in Lean hashes anything: it is a label: what it is worth is what the hold of that sum in a sandbox is worth. -/
noncomputable def Tryz.pinned : Pinned := { name := "ytjhngjdipealfaagreat", sum := "f464f52a49af46571603117022eda8bc4bf8237c5afca0e91a5f02bffae49974", checked := Tryz.checked }
namespace Rows
def none {H : Type} : Left H := { results := [], args := [] }

/-- 'floodgatelaw28.TopAhead': WHATEVER THE INPUT: true; the input reads as it did. -/
def topAheadSpec : ChangeSpec := { name := "topAhead", fn := fun _ => fun
  | [d] => { results := [.lit (.bool true)], args := [d] }
  | _ => none }
def topAheadRow : OpenClaim := { program := "ytjhngjdipealfaagreat", sum := "f464f52a49af46571603117022eda8bc4bf8237c5afca0e91a5f02bffae49974", func := "floodgate/floodgatelaw28.TopAhead", spec := "topAhead", inPlace := ["maps.clone"], unfollowed := true, recurses := true, plainKeys := false, apart := false }
def TopAheadSaid : Prop := topAheadRow.holds Tryz.pinned (OpenSpec.ofChange topAheadSpec)

/-- ITS FALSE NEIGHBOUR: 'it returns false'. Refute it at one input. -/
def topAheadWrong : ChangeSpec := { name := "topAhead", fn := fun _ => fun
  | [d] => { results := [.lit (.bool false)], args := [d] }
  | _ => none }
def TopAheadWrongFalsely : Prop := topAheadRow.holds Tryz.pinned (OpenSpec.ofChange topAheadWrong)

/-- 'floodgatelaw28.TopNil': WHATEVER THE INPUT: true; the input reads as it did. -/
def topNilSpec : ChangeSpec := { name := "topNil", fn := fun _ => fun
  | [d1, d2] => { results := [.lit (.bool true)], args := [d1, d2] }
  | _ => none }
def topNilRow : OpenClaim := { program := "ytjhngjdipealfaagreat", sum := "f464f52a49af46571603117022eda8bc4bf8237c5afca0e91a5f02bffae49974", func := "floodgate/floodgatelaw28.TopNil", spec := "topNil", inPlace := ["maps.clone"], unfollowed := true, recurses := true, plainKeys := false, apart := false }
def TopNilSaid : Prop := topNilRow.holds Tryz.pinned (OpenSpec.ofChange topNilSpec)

/-- ITS FALSE NEIGHBOUR: 'it returns false'. Refute it at one input. -/
def topNilWrong : ChangeSpec := { name := "topNil", fn := fun _ => fun
  | [d1, d2] => { results := [.lit (.bool false)], args := [d1, d2] }
  | _ => none }
def TopNilWrongFalsely : Prop := topNilRow.holds Tryz.pinned (OpenSpec.ofChange topNilWrong)

/-- 'floodgatelaw39.ReplayFirst': WHATEVER THE INPUT: true; the input reads as it did. -/
def replayFirstSpec : ChangeSpec := { name := "replayFirst", fn := fun _ => fun
  | [d1, d2] => { results := [.lit (.bool true)], args := [d1, d2] }
  | _ => none }
def replayFirstRow : OpenClaim := { program := "ytjhngjdipealfaagreat", sum := "f464f52a49af46571603117022eda8bc4bf8237c5afca0e91a5f02bffae49974", func := "floodgate/floodgatelaw39.ReplayFirst", spec := "replayFirst", inPlace := ["maps.clone"], unfollowed := true, recurses := true, plainKeys := false, apart := false }
def ReplayFirstSaid : Prop := replayFirstRow.holds Tryz.pinned (OpenSpec.ofChange replayFirstSpec)

/-- ITS FALSE NEIGHBOUR: 'it returns false'. Refute it at one input. -/
def replayFirstWrong : ChangeSpec := { name := "replayFirst", fn := fun _ => fun
  | [d1, d2] => { results := [.lit (.bool false)], args := [d1, d2] }
  | _ => none }
def ReplayFirstWrongFalsely : Prop := replayFirstRow.holds Tryz.pinned (OpenSpec.ofChange replayFirstWrong)

/-- 'floodgatelaw39.ReplayScripts': WHATEVER THE INPUT: true; the input reads as it did. -/
def replayScriptsSpec : ChangeSpec := { name := "replayScripts", fn := fun _ => fun
  | [d1, d2, d3] => { results := [.lit (.bool true)], args := [d1, d2, d3] }
  | _ => none }
def replayScriptsRow : OpenClaim := { program := "ytjhngjdipealfaagreat", sum := "f464f52a49af46571603117022eda8bc4bf8237c5afca0e91a5f02bffae49974", func := "floodgate/floodgatelaw39.ReplayScripts", spec := "replayScripts", inPlace := ["maps.clone"], unfollowed := true, recurses := true, plainKeys := false, apart := false }
def ReplayScriptsSaid : Prop := replayScriptsRow.holds Tryz.pinned (OpenSpec.ofChange replayScriptsSpec)

/-- ITS FALSE NEIGHBOUR: 'it returns false'. Refute it at one input. -/
def replayScriptsWrong : ChangeSpec := { name := "replayScripts", fn := fun _ => fun
  | [d1, d2, d3] => { results := [.lit (.bool false)], args := [d1, d2, d3] }
  | _ => none }
def ReplayScriptsWrongFalsely : Prop := replayScriptsRow.holds Tryz.pinned (OpenSpec.ofChange replayScriptsWrong)

/-- 'floodgatelaw35.BusySends': WHATEVER THE INPUT: true; the input reads as it did. -/
def busySendsSpec : ChangeSpec := { name := "busySends", fn := fun _ => fun
  | [d] => { results := [.lit (.bool true)], args := [d] }
  | _ => none }
def busySendsRow : OpenClaim := { program := "ytjhngjdipealfaagreat", sum := "f464f52a49af46571603117022eda8bc4bf8237c5afca0e91a5f02bffae49974", func := "floodgate/floodgatelaw35.BusySends", spec := "busySends", inPlace := ["maps.clone"], unfollowed := true, recurses := true, plainKeys := false, apart := false }
def BusySendsSaid : Prop := busySendsRow.holds Tryz.pinned (OpenSpec.ofChange busySendsSpec)

/-- ITS FALSE NEIGHBOUR: 'it returns false'. Refute it at one input. -/
def busySendsWrong : ChangeSpec := { name := "busySends", fn := fun _ => fun
  | [d] => { results := [.lit (.bool false)], args := [d] }
  | _ => none }
def BusySendsWrongFalsely : Prop := busySendsRow.holds Tryz.pinned (OpenSpec.ofChange busySendsWrong)

/-- 'floodgatelaw36.AuditTold': WHATEVER THE INPUT: true; the input reads as it did. -/
def auditToldSpec : ChangeSpec := { name := "auditTold", fn := fun _ => fun
  | [d1, d2, d3] => { results := [.lit (.bool true)], args := [d1, d2, d3] }
  | _ => none }
def auditToldRow : OpenClaim := { program := "ytjhngjdipealfaagreat", sum := "f464f52a49af46571603117022eda8bc4bf8237c5afca0e91a5f02bffae49974", func := "floodgate/floodgatelaw36.AuditTold", spec := "auditTold", inPlace := ["maps.clone"], unfollowed := true, recurses := true, plainKeys := false, apart := false }
def AuditToldSaid : Prop := auditToldRow.holds Tryz.pinned (OpenSpec.ofChange auditToldSpec)

/-- ITS FALSE NEIGHBOUR: 'it returns false'. Refute it at one input. -/
def auditToldWrong : ChangeSpec := { name := "auditTold", fn := fun _ => fun
  | [d1, d2, d3] => { results := [.lit (.bool false)], args := [d1, d2, d3] }
  | _ => none }
def AuditToldWrongFalsely : Prop := auditToldRow.holds Tryz.pinned (OpenSpec.ofChange auditToldWrong)

/- THE SECOND FORM. 'bulk': how many values and letters a reading holds, each counted each time it is reached (what is shared counts as often as it is met; a slice's spare places count too). A statement '..UptoSaid' is the law's where the arguments, and the package variables that the reading takes, are together of bulk at most 1048576: NARROWER than '..Said'. Prove '..Said' where nothing that the law and all that it calls make is longer than what came in: it says more and counts as full. Else prove '..UptoSaid'. A law counts once. -/
mutual
def uptoBulk {H : Type} : DataW H → Nat
  | .lit (.string bytes) => bytes.length + 1
  | .lit _ => 1
  | .nil => 1
  | .ptr d => uptoBulk d + 1
  | .slice elems spare => uptoBulkAll elems + uptoBulkAll spare + 1
  | .agg parts => uptoBulkAll parts + 1
  | .iface _ d => uptoBulk d + 1
  | .map entries => uptoBulkEntries entries + 1
  | .held _ => 1
def uptoBulkAll {H : Type} : List (DataW H) → Nat
  | [] => 0
  | d :: r => uptoBulk d + uptoBulkAll r
def uptoBulkEntries {H : Type} : List (Lit × DataW H) → Nat
  | [] => 0
  | x :: r => uptoBulkEntry x + uptoBulkEntries r
def uptoBulkEntry {H : Type} : Lit × DataW H → Nat
  | (.string bytes, d) => bytes.length + uptoBulk d + 1
  | (_, d) => uptoBulk d + 1
 end
def uptoSmall : (H : Type) → List (DataW H) → Bool := fun _ ds => decide (uptoBulkAll ds ≤ 1048576)
def OpenSpec.upto (s : _root_.Go.ChangeSpec) : _root_.Go.OpenSpec := { _root_.Go.OpenSpec.ofChange s with cond := some uptoSmall }

/-- 'floodgatelaw28.TopAhead', WHERE WHAT IT READS IS OF BULK AT MOST 1048576: true; the input reads as it did. -/
def topAheadUptoRow : OpenClaim := { program := "ytjhngjdipealfaagreat", sum := "f464f52a49af46571603117022eda8bc4bf8237c5afca0e91a5f02bffae49974", func := "floodgate/floodgatelaw28.TopAhead", spec := "topAhead", inPlace := ["maps.clone"], unfollowed := true, recurses := true, plainKeys := false, apart := false, narrowed := true }
def TopAheadUptoSaid : Prop := topAheadUptoRow.holds Tryz.pinned (OpenSpec.upto topAheadSpec)

/-- 'floodgatelaw28.TopNil', WHERE WHAT IT READS IS OF BULK AT MOST 1048576: true; the input reads as it did. -/
def topNilUptoRow : OpenClaim := { program := "ytjhngjdipealfaagreat", sum := "f464f52a49af46571603117022eda8bc4bf8237c5afca0e91a5f02bffae49974", func := "floodgate/floodgatelaw28.TopNil", spec := "topNil", inPlace := ["maps.clone"], unfollowed := true, recurses := true, plainKeys := false, apart := false, narrowed := true }
def TopNilUptoSaid : Prop := topNilUptoRow.holds Tryz.pinned (OpenSpec.upto topNilSpec)

/-- 'floodgatelaw39.ReplayFirst', WHERE WHAT IT READS IS OF BULK AT MOST 1048576: true; the input reads as it did. -/
def replayFirstUptoRow : OpenClaim := { program := "ytjhngjdipealfaagreat", sum := "f464f52a49af46571603117022eda8bc4bf8237c5afca0e91a5f02bffae49974", func := "floodgate/floodgatelaw39.ReplayFirst", spec := "replayFirst", inPlace := ["maps.clone"], unfollowed := true, recurses := true, plainKeys := false, apart := false, narrowed := true }
def ReplayFirstUptoSaid : Prop := replayFirstUptoRow.holds Tryz.pinned (OpenSpec.upto replayFirstSpec)

/-- 'floodgatelaw39.ReplayScripts', WHERE WHAT IT READS IS OF BULK AT MOST 1048576: true; the input reads as it did. -/
def replayScriptsUptoRow : OpenClaim := { program := "ytjhngjdipealfaagreat", sum := "f464f52a49af46571603117022eda8bc4bf8237c5afca0e91a5f02bffae49974", func := "floodgate/floodgatelaw39.ReplayScripts", spec := "replayScripts", inPlace := ["maps.clone"], unfollowed := true, recurses := true, plainKeys := false, apart := false, narrowed := true }
def ReplayScriptsUptoSaid : Prop := replayScriptsUptoRow.holds Tryz.pinned (OpenSpec.upto replayScriptsSpec)

/-- 'floodgatelaw35.BusySends', WHERE WHAT IT READS IS OF BULK AT MOST 1048576: true; the input reads as it did. -/
def busySendsUptoRow : OpenClaim := { program := "ytjhngjdipealfaagreat", sum := "f464f52a49af46571603117022eda8bc4bf8237c5afca0e91a5f02bffae49974", func := "floodgate/floodgatelaw35.BusySends", spec := "busySends", inPlace := ["maps.clone"], unfollowed := true, recurses := true, plainKeys := false, apart := false, narrowed := true }
def BusySendsUptoSaid : Prop := busySendsUptoRow.holds Tryz.pinned (OpenSpec.upto busySendsSpec)

/-- 'floodgatelaw36.AuditTold', WHERE WHAT IT READS IS OF BULK AT MOST 1048576: true; the input reads as it did. -/
def auditToldUptoRow : OpenClaim := { program := "ytjhngjdipealfaagreat", sum := "f464f52a49af46571603117022eda8bc4bf8237c5afca0e91a5f02bffae49974", func := "floodgate/floodgatelaw36.AuditTold", spec := "auditTold", inPlace := ["maps.clone"], unfollowed := true, recurses := true, plainKeys := false, apart := false, narrowed := true }
def AuditToldUptoSaid : Prop := auditToldUptoRow.holds Tryz.pinned (OpenSpec.upto auditToldSpec)

end Rows
end Go.Proofs.YtjhngjdipealfaaGreat
