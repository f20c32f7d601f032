/-
  No cell of these rows narrows 'for every input' (looked for: loops, veiled, ifaces, maps, wideKeys, modest, calm, conditions, laid).
  DERIVED. THE GIVEN ROWS OF THIS SEAT. 4 by the template 'for every input the law returns true; each argument reads behind the call as it read before'; 0 by the template 'total and deterministic' (their statements: YtpafochnmfelfaaGreatTotals.lean).
  GIVEN WITH THE SEED: the statements are not yours to turn. If you find one false, say at which input.
  Laid BY PROGRAM, IN A SANDBOX (cutbox-rows.mjs): the forced cells as the released guide's own fill.sh prints them over the translation 8f5319faceee2113… (all of the seat's roots in one cut). By AI agents, Wed Nov 11 2026. No macro, syntax, notation, axiom, sorry.
-/
import Derived.Test.YtpafochnmfelfaaGreatChecked
import GoSem.Claim
import GoSem.ClaimJoined
import GoSem.ClaimMapViews
import Derived.JoinedTies
import Derived.KernelRfl
namespace Go.Proofs.YtpafochnmfelfaaGreat
/- THE CELL 'sum', in the pinned program and in every row, IS THE sha256 OF THE DUMP (.gsa) THAT YtpafochnmfelfaaGreatProg.lean LOADS. Nothing in Lean hashes anything: it is a label: what it is worth is what the hold of that sum in a sandbox is worth. -/
noncomputable def Tryz.pinned : Pinned := { name := "ytpafochnmfelfaagreat", sum := "8f5319faceee21135c2915d4e99ca51c8987a1e78ab6368a4bc8d416d6ce9f25", checked := Tryz.checked }
namespace Rows
def none {H : Type} : Left H := { results := [], args := [] }

/-- 'floodgatelaw37.StateSame': WHATEVER THE INPUT: true; the input reads as it did. -/
def stateSameSpec : ChangeSpec := { name := "stateSame", fn := fun _ => fun
  | [d1, d2] => { results := [.lit (.bool true)], args := [d1, d2] }
  | _ => none }
def stateSameRow : OpenClaim := { program := "ytpafochnmfelfaagreat", sum := "8f5319faceee21135c2915d4e99ca51c8987a1e78ab6368a4bc8d416d6ce9f25", func := "floodgate/floodgatelaw37.StateSame", spec := "stateSame", inPlace := ["maps.clone"], unfollowed := true, recurses := true, plainKeys := false, apart := false }
def StateSameSaid : Prop := stateSameRow.holds Tryz.pinned (OpenSpec.ofChange stateSameSpec)

/-- ITS FALSE NEIGHBOUR: 'it returns false'. Refute it at one input. -/
def stateSameWrong : ChangeSpec := { name := "stateSame", fn := fun _ => fun
  | [d1, d2] => { results := [.lit (.bool false)], args := [d1, d2] }
  | _ => none }
def StateSameWrongFalsely : Prop := stateSameRow.holds Tryz.pinned (OpenSpec.ofChange stateSameWrong)

/-- 'floodgatelaw37.StateAll': WHATEVER THE INPUT: true; the input reads as it did. -/
def stateAllSpec : ChangeSpec := { name := "stateAll", fn := fun _ => fun
  | [d1, d2, d3] => { results := [.lit (.bool true)], args := [d1, d2, d3] }
  | _ => none }
def stateAllRow : OpenClaim := { program := "ytpafochnmfelfaagreat", sum := "8f5319faceee21135c2915d4e99ca51c8987a1e78ab6368a4bc8d416d6ce9f25", func := "floodgate/floodgatelaw37.StateAll", spec := "stateAll", inPlace := ["maps.clone"], unfollowed := true, recurses := true, plainKeys := false, apart := false }
def StateAllSaid : Prop := stateAllRow.holds Tryz.pinned (OpenSpec.ofChange stateAllSpec)

/-- ITS FALSE NEIGHBOUR: 'it returns false'. Refute it at one input. -/
def stateAllWrong : ChangeSpec := { name := "stateAll", fn := fun _ => fun
  | [d1, d2, d3] => { results := [.lit (.bool false)], args := [d1, d2, d3] }
  | _ => none }
def StateAllWrongFalsely : Prop := stateAllRow.holds Tryz.pinned (OpenSpec.ofChange stateAllWrong)

/-- 'floodgatelaw37.StateRefused': WHATEVER THE INPUT: true; the input reads as it did. -/
def stateRefusedSpec : ChangeSpec := { name := "stateRefused", fn := fun _ => fun
  | [d1, d2] => { results := [.lit (.bool true)], args := [d1, d2] }
  | _ => none }
def stateRefusedRow : OpenClaim := { program := "ytpafochnmfelfaagreat", sum := "8f5319faceee21135c2915d4e99ca51c8987a1e78ab6368a4bc8d416d6ce9f25", func := "floodgate/floodgatelaw37.StateRefused", spec := "stateRefused", inPlace := ["maps.clone"], unfollowed := true, recurses := true, plainKeys := false, apart := false }
def StateRefusedSaid : Prop := stateRefusedRow.holds Tryz.pinned (OpenSpec.ofChange stateRefusedSpec)

/-- ITS FALSE NEIGHBOUR: 'it returns false'. Refute it at one input. -/
def stateRefusedWrong : ChangeSpec := { name := "stateRefused", fn := fun _ => fun
  | [d1, d2] => { results := [.lit (.bool false)], args := [d1, d2] }
  | _ => none }
def StateRefusedWrongFalsely : Prop := stateRefusedRow.holds Tryz.pinned (OpenSpec.ofChange stateRefusedWrong)

/-- 'floodgatelaw37.StateOf': WHATEVER THE INPUT: true; the input reads as it did. -/
def stateOfSpec : ChangeSpec := { name := "stateOf", fn := fun _ => fun
  | [d] => { results := [.lit (.bool true)], args := [d] }
  | _ => none }
def stateOfRow : OpenClaim := { program := "ytpafochnmfelfaagreat", sum := "8f5319faceee21135c2915d4e99ca51c8987a1e78ab6368a4bc8d416d6ce9f25", func := "floodgate/floodgatelaw37.StateOf", spec := "stateOf", inPlace := ["maps.clone"], unfollowed := true, recurses := true, plainKeys := false, apart := false }
def StateOfSaid : Prop := stateOfRow.holds Tryz.pinned (OpenSpec.ofChange stateOfSpec)

/-- ITS FALSE NEIGHBOUR: 'it returns false'. Refute it at one input. -/
def stateOfWrong : ChangeSpec := { name := "stateOf", fn := fun _ => fun
  | [d] => { results := [.lit (.bool false)], args := [d] }
  | _ => none }
def StateOfWrongFalsely : Prop := stateOfRow.holds Tryz.pinned (OpenSpec.ofChange stateOfWrong)

/- THE SECOND FORM. 'bulk': how many values and letters a reading holds, each counted each time it is reached (what is shared counts as often as it is met; a slice's spare places count too). A statement '..UptoSaid' is the law's where the arguments, and the package variables that the reading takes, are together of bulk at most 1048576: NARROWER than '..Said'. Prove '..Said' where nothing that the law and all that it calls make is longer than what came in: it says more and counts as full. Else prove '..UptoSaid'. A law counts once. -/
mutual
def uptoBulk {H : Type} : DataW H → Nat
  | .lit (.string bytes) => bytes.length + 1
  | .lit _ => 1
  | .nil => 1
  | .ptr d => uptoBulk d + 1
  | .slice elems spare => uptoBulkAll elems + uptoBulkAll spare + 1
  | .agg parts => uptoBulkAll parts + 1
  | .iface _ d => uptoBulk d + 1
  | .map entries => uptoBulkEntries entries + 1
  | .held _ => 1
def uptoBulkAll {H : Type} : List (DataW H) → Nat
  | [] => 0
  | d :: r => uptoBulk d + uptoBulkAll r
def uptoBulkEntries {H : Type} : List (Lit × DataW H) → Nat
  | [] => 0
  | x :: r => uptoBulkEntry x + uptoBulkEntries r
def uptoBulkEntry {H : Type} : Lit × DataW H → Nat
  | (.string bytes, d) => bytes.length + uptoBulk d + 1
  | (_, d) => uptoBulk d + 1
 end
def uptoSmall : (H : Type) → List (DataW H) → Bool := fun _ ds => decide (uptoBulkAll ds ≤ 1048576)
def OpenSpec.upto (s : _root_.Go.ChangeSpec) : _root_.Go.OpenSpec := { _root_.Go.OpenSpec.ofChange s with cond := some uptoSmall }

/-- 'floodgatelaw37.StateSame', WHERE WHAT IT READS IS OF BULK AT MOST 1048576: true; the input reads as it did. -/
def stateSameUptoRow : OpenClaim := { program := "ytpafochnmfelfaagreat", sum := "8f5319faceee21135c2915d4e99ca51c8987a1e78ab6368a4bc8d416d6ce9f25", func := "floodgate/floodgatelaw37.StateSame", spec := "stateSame", inPlace := ["maps.clone"], unfollowed := true, recurses := true, plainKeys := false, apart := false, narrowed := true }
def StateSameUptoSaid : Prop := stateSameUptoRow.holds Tryz.pinned (OpenSpec.upto stateSameSpec)

/-- 'floodgatelaw37.StateAll', WHERE WHAT IT READS IS OF BULK AT MOST 1048576: true; the input reads as it did. -/
def stateAllUptoRow : OpenClaim := { program := "ytpafochnmfelfaagreat", sum := "8f5319faceee21135c2915d4e99ca51c8987a1e78ab6368a4bc8d416d6ce9f25", func := "floodgate/floodgatelaw37.StateAll", spec := "stateAll", inPlace := ["maps.clone"], unfollowed := true, recurses := true, plainKeys := false, apart := false, narrowed := true }
def StateAllUptoSaid : Prop := stateAllUptoRow.holds Tryz.pinned (OpenSpec.upto stateAllSpec)

/-- 'floodgatelaw37.StateRefused', WHERE WHAT IT READS IS OF BULK AT MOST 1048576: true; the input reads as it did. -/
def stateRefusedUptoRow : OpenClaim := { program := "ytpafochnmfelfaagreat", sum := "8f5319faceee21135c2915d4e99ca51c8987a1e78ab6368a4bc8d416d6ce9f25", func := "floodgate/floodgatelaw37.StateRefused", spec := "stateRefused", inPlace := ["maps.clone"], unfollowed := true, recurses := true, plainKeys := false, apart := false, narrowed := true }
def StateRefusedUptoSaid : Prop := stateRefusedUptoRow.holds Tryz.pinned (OpenSpec.upto stateRefusedSpec)

/-- 'floodgatelaw37.StateOf', WHERE WHAT IT READS IS OF BULK AT MOST 1048576: true; the input reads as it did. -/
def stateOfUptoRow : OpenClaim := { program := "ytpafochnmfelfaagreat", sum := "8f5319faceee21135c2915d4e99ca51c8987a1e78ab6368a4bc8d416d6ce9f25", func := "floodgate/floodgatelaw37.StateOf", spec := "stateOf", inPlace := ["maps.clone"], unfollowed := true, recurses := true, plainKeys := false, apart := false, narrowed := true }
def StateOfUptoSaid : Prop := stateOfUptoRow.holds Tryz.pinned (OpenSpec.upto stateOfSpec)

end Rows
end Go.Proofs.YtpafochnmfelfaaGreat
