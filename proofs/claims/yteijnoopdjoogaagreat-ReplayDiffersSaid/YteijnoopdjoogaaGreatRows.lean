/-
  No cell of these rows narrows 'for every input' (looked for: loops, veiled, ifaces, maps, wideKeys, modest, calm, conditions, laid).
  DERIVED. THE GIVEN ROWS OF THIS SEAT. 7 by the template 'for every input the law returns true; each argument reads behind the call as it read before'; 0 by the template 'total and deterministic' (their statements: YteijnoopdjoogaaGreatTotals.lean).
  GIVEN WITH THE SEED: the statements are not yours to turn. If you find one false, say at which input.
  Laid BY PROGRAM, IN A SANDBOX (cutbox-rows.mjs): the forced cells as the released guide's own fill.sh prints them over the translation 29a3336442b5e4c1… (all of the seat's roots in one cut). By AI agents, Wed Nov 11 2026. No macro, syntax, notation, axiom, sorry.
-/
import Derived.Test.YteijnoopdjoogaaGreatChecked
import GoSem.Claim
import GoSem.ClaimJoined
import GoSem.ClaimMapViews
import Derived.JoinedTies
import Derived.KernelRfl
namespace Go.Proofs.YteijnoopdjoogaaGreat
/- THE CELL 'sum', in the pinned program and in every row, IS THE sha256 OF THE DUMP (.gsa) THAT YteijnoopdjoogaaGreatProg.lean LOADS. Nothing in Lean hashes anything: it is a label: what it is worth is what the hold of that sum in a sandbox is worth. -/
noncomputable def Tryz.pinned : Pinned := { name := "yteijnoopdjoogaagreat", sum := "29a3336442b5e4c1c0b6d57da324f7738bc887339df59b99e1ac58778a58ebec", checked := Tryz.checked }
namespace Rows
def none {H : Type} : Left H := { results := [], args := [] }

/-- 'floodgatelaw24.CoreOrder': WHATEVER THE INPUT: true; the input reads as it did. -/
def coreOrderSpec : ChangeSpec := { name := "coreOrder", fn := fun _ => fun
  | [d1, d2, d3] => { results := [.lit (.bool true)], args := [d1, d2, d3] }
  | _ => none }
def coreOrderRow : OpenClaim := { program := "yteijnoopdjoogaagreat", sum := "29a3336442b5e4c1c0b6d57da324f7738bc887339df59b99e1ac58778a58ebec", func := "floodgate/floodgatelaw24.CoreOrder", spec := "coreOrder", inPlace := ["maps.clone"], unfollowed := true, recurses := true, plainKeys := false, apart := false }
def CoreOrderSaid : Prop := coreOrderRow.holds Tryz.pinned (OpenSpec.ofChange coreOrderSpec)

/-- ITS FALSE NEIGHBOUR: 'it returns false'. Refute it at one input. -/
def coreOrderWrong : ChangeSpec := { name := "coreOrder", fn := fun _ => fun
  | [d1, d2, d3] => { results := [.lit (.bool false)], args := [d1, d2, d3] }
  | _ => none }
def CoreOrderWrongFalsely : Prop := coreOrderRow.holds Tryz.pinned (OpenSpec.ofChange coreOrderWrong)

/-- 'floodgatelaw24.CoreTotals': WHATEVER THE INPUT: true; the input reads as it did. -/
def coreTotalsSpec : ChangeSpec := { name := "coreTotals", fn := fun _ => fun
  | [d1, d2] => { results := [.lit (.bool true)], args := [d1, d2] }
  | _ => none }
def coreTotalsRow : OpenClaim := { program := "yteijnoopdjoogaagreat", sum := "29a3336442b5e4c1c0b6d57da324f7738bc887339df59b99e1ac58778a58ebec", func := "floodgate/floodgatelaw24.CoreTotals", spec := "coreTotals", inPlace := ["maps.clone"], unfollowed := true, recurses := true, plainKeys := false, apart := false }
def CoreTotalsSaid : Prop := coreTotalsRow.holds Tryz.pinned (OpenSpec.ofChange coreTotalsSpec)

/-- ITS FALSE NEIGHBOUR: 'it returns false'. Refute it at one input. -/
def coreTotalsWrong : ChangeSpec := { name := "coreTotals", fn := fun _ => fun
  | [d1, d2] => { results := [.lit (.bool false)], args := [d1, d2] }
  | _ => none }
def CoreTotalsWrongFalsely : Prop := coreTotalsRow.holds Tryz.pinned (OpenSpec.ofChange coreTotalsWrong)

/-- 'floodgatelaw24.CoreRefused': WHATEVER THE INPUT: true; the input reads as it did. -/
def coreRefusedSpec : ChangeSpec := { name := "coreRefused", fn := fun _ => fun
  | [d1, d2, d3] => { results := [.lit (.bool true)], args := [d1, d2, d3] }
  | _ => none }
def coreRefusedRow : OpenClaim := { program := "yteijnoopdjoogaagreat", sum := "29a3336442b5e4c1c0b6d57da324f7738bc887339df59b99e1ac58778a58ebec", func := "floodgate/floodgatelaw24.CoreRefused", spec := "coreRefused", inPlace := ["maps.clone"], unfollowed := true, recurses := true, plainKeys := false, apart := false }
def CoreRefusedSaid : Prop := coreRefusedRow.holds Tryz.pinned (OpenSpec.ofChange coreRefusedSpec)

/-- ITS FALSE NEIGHBOUR: 'it returns false'. Refute it at one input. -/
def coreRefusedWrong : ChangeSpec := { name := "coreRefused", fn := fun _ => fun
  | [d1, d2, d3] => { results := [.lit (.bool false)], args := [d1, d2, d3] }
  | _ => none }
def CoreRefusedWrongFalsely : Prop := coreRefusedRow.holds Tryz.pinned (OpenSpec.ofChange coreRefusedWrong)

/-- 'floodgatelaw24.CoreNil': WHATEVER THE INPUT: true; the input reads as it did. -/
def coreNilSpec : ChangeSpec := { name := "coreNil", fn := fun _ => fun
  | [d] => { results := [.lit (.bool true)], args := [d] }
  | _ => none }
def coreNilRow : OpenClaim := { program := "yteijnoopdjoogaagreat", sum := "29a3336442b5e4c1c0b6d57da324f7738bc887339df59b99e1ac58778a58ebec", func := "floodgate/floodgatelaw24.CoreNil", spec := "coreNil", inPlace := ["maps.clone"], unfollowed := true, recurses := true, plainKeys := false, apart := false }
def CoreNilSaid : Prop := coreNilRow.holds Tryz.pinned (OpenSpec.ofChange coreNilSpec)

/-- ITS FALSE NEIGHBOUR: 'it returns false'. Refute it at one input. -/
def coreNilWrong : ChangeSpec := { name := "coreNil", fn := fun _ => fun
  | [d] => { results := [.lit (.bool false)], args := [d] }
  | _ => none }
def CoreNilWrongFalsely : Prop := coreNilRow.holds Tryz.pinned (OpenSpec.ofChange coreNilWrong)

/-- 'floodgatelaw39.ReplayAhead': WHATEVER THE INPUT: true; the input reads as it did. -/
def replayAheadSpec : ChangeSpec := { name := "replayAhead", fn := fun _ => fun
  | [d1, d2, d3] => { results := [.lit (.bool true)], args := [d1, d2, d3] }
  | _ => none }
def replayAheadRow : OpenClaim := { program := "yteijnoopdjoogaagreat", sum := "29a3336442b5e4c1c0b6d57da324f7738bc887339df59b99e1ac58778a58ebec", func := "floodgate/floodgatelaw39.ReplayAhead", spec := "replayAhead", inPlace := ["maps.clone"], unfollowed := true, recurses := true, plainKeys := false, apart := false }
def ReplayAheadSaid : Prop := replayAheadRow.holds Tryz.pinned (OpenSpec.ofChange replayAheadSpec)

/-- ITS FALSE NEIGHBOUR: 'it returns false'. Refute it at one input. -/
def replayAheadWrong : ChangeSpec := { name := "replayAhead", fn := fun _ => fun
  | [d1, d2, d3] => { results := [.lit (.bool false)], args := [d1, d2, d3] }
  | _ => none }
def ReplayAheadWrongFalsely : Prop := replayAheadRow.holds Tryz.pinned (OpenSpec.ofChange replayAheadWrong)

/-- 'floodgatelaw39.ReplayDiffers': WHATEVER THE INPUT: true; the input reads as it did. -/
def replayDiffersSpec : ChangeSpec := { name := "replayDiffers", fn := fun _ => fun
  | [d1, d2] => { results := [.lit (.bool true)], args := [d1, d2] }
  | _ => none }
def replayDiffersRow : OpenClaim := { program := "yteijnoopdjoogaagreat", sum := "29a3336442b5e4c1c0b6d57da324f7738bc887339df59b99e1ac58778a58ebec", func := "floodgate/floodgatelaw39.ReplayDiffers", spec := "replayDiffers", inPlace := ["maps.clone"], unfollowed := true, recurses := true, plainKeys := false, apart := false }
def ReplayDiffersSaid : Prop := replayDiffersRow.holds Tryz.pinned (OpenSpec.ofChange replayDiffersSpec)

/-- ITS FALSE NEIGHBOUR: 'it returns false'. Refute it at one input. -/
def replayDiffersWrong : ChangeSpec := { name := "replayDiffers", fn := fun _ => fun
  | [d1, d2] => { results := [.lit (.bool false)], args := [d1, d2] }
  | _ => none }
def ReplayDiffersWrongFalsely : Prop := replayDiffersRow.holds Tryz.pinned (OpenSpec.ofChange replayDiffersWrong)

/-- 'floodgatelaw28.TopNil': WHATEVER THE INPUT: true; the input reads as it did. -/
def topNilSpec : ChangeSpec := { name := "topNil", fn := fun _ => fun
  | [d1, d2] => { results := [.lit (.bool true)], args := [d1, d2] }
  | _ => none }
def topNilRow : OpenClaim := { program := "yteijnoopdjoogaagreat", sum := "29a3336442b5e4c1c0b6d57da324f7738bc887339df59b99e1ac58778a58ebec", func := "floodgate/floodgatelaw28.TopNil", spec := "topNil", inPlace := ["maps.clone"], unfollowed := true, recurses := true, plainKeys := false, apart := false }
def TopNilSaid : Prop := topNilRow.holds Tryz.pinned (OpenSpec.ofChange topNilSpec)

/-- ITS FALSE NEIGHBOUR: 'it returns false'. Refute it at one input. -/
def topNilWrong : ChangeSpec := { name := "topNil", fn := fun _ => fun
  | [d1, d2] => { results := [.lit (.bool false)], args := [d1, d2] }
  | _ => none }
def TopNilWrongFalsely : Prop := topNilRow.holds Tryz.pinned (OpenSpec.ofChange topNilWrong)

/- THE SECOND FORM. 'bulk': how many values and letters a reading holds, each counted each time it is reached (what is shared counts as often as it is met; a slice's spare places count too). A statement '..UptoSaid' is the law's where the arguments, and the package variables that the reading takes, are together of bulk at most 1048576: NARROWER than '..Said'. Prove '..Said' where nothing that the law and all that it calls make is longer than what came in: it says more and counts as full. Else prove '..UptoSaid'. A law counts once. -/
mutual
def uptoBulk {H : Type} : DataW H → Nat
  | .lit (.string bytes) => bytes.length + 1
  | .lit _ => 1
  | .nil => 1
  | .ptr d => uptoBulk d + 1
  | .slice elems spare => uptoBulkAll elems + uptoBulkAll spare + 1
  | .agg parts => uptoBulkAll parts + 1
  | .iface _ d => uptoBulk d + 1
  | .map entries => uptoBulkEntries entries + 1
  | .held _ => 1
def uptoBulkAll {H : Type} : List (DataW H) → Nat
  | [] => 0
  | d :: r => uptoBulk d + uptoBulkAll r
def uptoBulkEntries {H : Type} : List (Lit × DataW H) → Nat
  | [] => 0
  | x :: r => uptoBulkEntry x + uptoBulkEntries r
def uptoBulkEntry {H : Type} : Lit × DataW H → Nat
  | (.string bytes, d) => bytes.length + uptoBulk d + 1
  | (_, d) => uptoBulk d + 1
 end
def uptoSmall : (H : Type) → List (DataW H) → Bool := fun _ ds => decide (uptoBulkAll ds ≤ 1048576)
def OpenSpec.upto (s : _root_.Go.ChangeSpec) : _root_.Go.OpenSpec := { _root_.Go.OpenSpec.ofChange s with cond := some uptoSmall }

/-- 'floodgatelaw24.CoreOrder', WHERE WHAT IT READS IS OF BULK AT MOST 1048576: true; the input reads as it did. -/
def coreOrderUptoRow : OpenClaim := { program := "yteijnoopdjoogaagreat", sum := "29a3336442b5e4c1c0b6d57da324f7738bc887339df59b99e1ac58778a58ebec", func := "floodgate/floodgatelaw24.CoreOrder", spec := "coreOrder", inPlace := ["maps.clone"], unfollowed := true, recurses := true, plainKeys := false, apart := false, narrowed := true }
def CoreOrderUptoSaid : Prop := coreOrderUptoRow.holds Tryz.pinned (OpenSpec.upto coreOrderSpec)

/-- 'floodgatelaw24.CoreTotals', WHERE WHAT IT READS IS OF BULK AT MOST 1048576: true; the input reads as it did. -/
def coreTotalsUptoRow : OpenClaim := { program := "yteijnoopdjoogaagreat", sum := "29a3336442b5e4c1c0b6d57da324f7738bc887339df59b99e1ac58778a58ebec", func := "floodgate/floodgatelaw24.CoreTotals", spec := "coreTotals", inPlace := ["maps.clone"], unfollowed := true, recurses := true, plainKeys := false, apart := false, narrowed := true }
def CoreTotalsUptoSaid : Prop := coreTotalsUptoRow.holds Tryz.pinned (OpenSpec.upto coreTotalsSpec)

/-- 'floodgatelaw24.CoreRefused', WHERE WHAT IT READS IS OF BULK AT MOST 1048576: true; the input reads as it did. -/
def coreRefusedUptoRow : OpenClaim := { program := "yteijnoopdjoogaagreat", sum := "29a3336442b5e4c1c0b6d57da324f7738bc887339df59b99e1ac58778a58ebec", func := "floodgate/floodgatelaw24.CoreRefused", spec := "coreRefused", inPlace := ["maps.clone"], unfollowed := true, recurses := true, plainKeys := false, apart := false, narrowed := true }
def CoreRefusedUptoSaid : Prop := coreRefusedUptoRow.holds Tryz.pinned (OpenSpec.upto coreRefusedSpec)

/-- 'floodgatelaw24.CoreNil', WHERE WHAT IT READS IS OF BULK AT MOST 1048576: true; the input reads as it did. -/
def coreNilUptoRow : OpenClaim := { program := "yteijnoopdjoogaagreat", sum := "29a3336442b5e4c1c0b6d57da324f7738bc887339df59b99e1ac58778a58ebec", func := "floodgate/floodgatelaw24.CoreNil", spec := "coreNil", inPlace := ["maps.clone"], unfollowed := true, recurses := true, plainKeys := false, apart := false, narrowed := true }
def CoreNilUptoSaid : Prop := coreNilUptoRow.holds Tryz.pinned (OpenSpec.upto coreNilSpec)

/-- 'floodgatelaw39.ReplayAhead', WHERE WHAT IT READS IS OF BULK AT MOST 1048576: true; the input reads as it did. -/
def replayAheadUptoRow : OpenClaim := { program := "yteijnoopdjoogaagreat", sum := "29a3336442b5e4c1c0b6d57da324f7738bc887339df59b99e1ac58778a58ebec", func := "floodgate/floodgatelaw39.ReplayAhead", spec := "replayAhead", inPlace := ["maps.clone"], unfollowed := true, recurses := true, plainKeys := false, apart := false, narrowed := true }
def ReplayAheadUptoSaid : Prop := replayAheadUptoRow.holds Tryz.pinned (OpenSpec.upto replayAheadSpec)

/-- 'floodgatelaw39.ReplayDiffers', WHERE WHAT IT READS IS OF BULK AT MOST 1048576: true; the input reads as it did. -/
def replayDiffersUptoRow : OpenClaim := { program := "yteijnoopdjoogaagreat", sum := "29a3336442b5e4c1c0b6d57da324f7738bc887339df59b99e1ac58778a58ebec", func := "floodgate/floodgatelaw39.ReplayDiffers", spec := "replayDiffers", inPlace := ["maps.clone"], unfollowed := true, recurses := true, plainKeys := false, apart := false, narrowed := true }
def ReplayDiffersUptoSaid : Prop := replayDiffersUptoRow.holds Tryz.pinned (OpenSpec.upto replayDiffersSpec)

/-- 'floodgatelaw28.TopNil', WHERE WHAT IT READS IS OF BULK AT MOST 1048576: true; the input reads as it did. -/
def topNilUptoRow : OpenClaim := { program := "yteijnoopdjoogaagreat", sum := "29a3336442b5e4c1c0b6d57da324f7738bc887339df59b99e1ac58778a58ebec", func := "floodgate/floodgatelaw28.TopNil", spec := "topNil", inPlace := ["maps.clone"], unfollowed := true, recurses := true, plainKeys := false, apart := false, narrowed := true }
def TopNilUptoSaid : Prop := topNilUptoRow.holds Tryz.pinned (OpenSpec.upto topNilSpec)

end Rows
end Go.Proofs.YteijnoopdjoogaaGreat
