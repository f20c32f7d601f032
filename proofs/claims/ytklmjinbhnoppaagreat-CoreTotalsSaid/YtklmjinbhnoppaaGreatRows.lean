/-
  No cell of these rows narrows 'for every input' (looked for: loops, veiled, ifaces, maps, wideKeys, modest, calm, conditions, laid).
  DERIVED. THE GIVEN ROWS OF THIS SEAT. 6 by the template 'for every input the law returns true; each argument reads behind the call as it read before'; 0 by the template 'total and deterministic' (their statements: YtklmjinbhnoppaaGreatTotals.lean).
  GIVEN WITH THE SEED: the statements are not yours to turn. If you find one false, say at which input.
  Laid BY PROGRAM, IN A SANDBOX (cutbox-rows.mjs): the forced cells as the released guide's own fill.sh prints them over the translation e339e437078fc5f8… (all of the seat's roots in one cut). By AI agents, Wed Nov 11 2026. No macro, syntax, notation, axiom, sorry.
-/
import Derived.Test.YtklmjinbhnoppaaGreatChecked
import GoSem.Claim
import GoSem.ClaimJoined
import GoSem.ClaimMapViews
import Derived.JoinedTies
import Derived.KernelRfl
namespace Go.Proofs.YtklmjinbhnoppaaGreat
/- THE CELL 'sum', in the pinned program and in every row, IS THE sha256 OF THE DUMP (.gsa) THAT YtklmjinbhnoppaaGreatProg.lean LOADS. Nothing in Lean hashes anything: it is a label: what it is worth is what the hold of that sum in a sandbox is worth. -/
noncomputable def Tryz.pinned : Pinned := { name := "ytklmjinbhnoppaagreat", sum := "e339e437078fc5f8bf371c0aef7f1d9c55f72bb1864719b8e0b5e80665974444", checked := Tryz.checked }
namespace Rows
def none {H : Type} : Left H := { results := [], args := [] }

/-- 'floodgatelaw24.CoreDue': WHATEVER THE INPUT: true; the input reads as it did. -/
def coreDueSpec : ChangeSpec := { name := "coreDue", fn := fun _ => fun
  | [d1, d2, d3] => { results := [.lit (.bool true)], args := [d1, d2, d3] }
  | _ => none }
def coreDueRow : OpenClaim := { program := "ytklmjinbhnoppaagreat", sum := "e339e437078fc5f8bf371c0aef7f1d9c55f72bb1864719b8e0b5e80665974444", func := "floodgate/floodgatelaw24.CoreDue", spec := "coreDue", inPlace := ["maps.clone"], unfollowed := true, recurses := true, apart := false }
def CoreDueSaid : Prop := coreDueRow.holds Tryz.pinned (OpenSpec.ofChange coreDueSpec)

/-- ITS FALSE NEIGHBOUR: 'it returns false'. Refute it at one input. -/
def coreDueWrong : ChangeSpec := { name := "coreDue", fn := fun _ => fun
  | [d1, d2, d3] => { results := [.lit (.bool false)], args := [d1, d2, d3] }
  | _ => none }
def CoreDueWrongFalsely : Prop := coreDueRow.holds Tryz.pinned (OpenSpec.ofChange coreDueWrong)

/-- 'floodgatelaw24.CoreOrder': WHATEVER THE INPUT: true; the input reads as it did. -/
def coreOrderSpec : ChangeSpec := { name := "coreOrder", fn := fun _ => fun
  | [d1, d2, d3] => { results := [.lit (.bool true)], args := [d1, d2, d3] }
  | _ => none }
def coreOrderRow : OpenClaim := { program := "ytklmjinbhnoppaagreat", sum := "e339e437078fc5f8bf371c0aef7f1d9c55f72bb1864719b8e0b5e80665974444", func := "floodgate/floodgatelaw24.CoreOrder", spec := "coreOrder", inPlace := ["maps.clone"], unfollowed := true, recurses := true, apart := false }
def CoreOrderSaid : Prop := coreOrderRow.holds Tryz.pinned (OpenSpec.ofChange coreOrderSpec)

/-- ITS FALSE NEIGHBOUR: 'it returns false'. Refute it at one input. -/
def coreOrderWrong : ChangeSpec := { name := "coreOrder", fn := fun _ => fun
  | [d1, d2, d3] => { results := [.lit (.bool false)], args := [d1, d2, d3] }
  | _ => none }
def CoreOrderWrongFalsely : Prop := coreOrderRow.holds Tryz.pinned (OpenSpec.ofChange coreOrderWrong)

/-- 'floodgatelaw24.CoreTotals': WHATEVER THE INPUT: true; the input reads as it did. -/
def coreTotalsSpec : ChangeSpec := { name := "coreTotals", fn := fun _ => fun
  | [d1, d2] => { results := [.lit (.bool true)], args := [d1, d2] }
  | _ => none }
def coreTotalsRow : OpenClaim := { program := "ytklmjinbhnoppaagreat", sum := "e339e437078fc5f8bf371c0aef7f1d9c55f72bb1864719b8e0b5e80665974444", func := "floodgate/floodgatelaw24.CoreTotals", spec := "coreTotals", inPlace := ["maps.clone"], unfollowed := true, recurses := true, apart := false }
def CoreTotalsSaid : Prop := coreTotalsRow.holds Tryz.pinned (OpenSpec.ofChange coreTotalsSpec)

/-- ITS FALSE NEIGHBOUR: 'it returns false'. Refute it at one input. -/
def coreTotalsWrong : ChangeSpec := { name := "coreTotals", fn := fun _ => fun
  | [d1, d2] => { results := [.lit (.bool false)], args := [d1, d2] }
  | _ => none }
def CoreTotalsWrongFalsely : Prop := coreTotalsRow.holds Tryz.pinned (OpenSpec.ofChange coreTotalsWrong)

/-- 'floodgatelaw24.CoreRefused': WHATEVER THE INPUT: true; the input reads as it did. -/
def coreRefusedSpec : ChangeSpec := { name := "coreRefused", fn := fun _ => fun
  | [d1, d2, d3] => { results := [.lit (.bool true)], args := [d1, d2, d3] }
  | _ => none }
def coreRefusedRow : OpenClaim := { program := "ytklmjinbhnoppaagreat", sum := "e339e437078fc5f8bf371c0aef7f1d9c55f72bb1864719b8e0b5e80665974444", func := "floodgate/floodgatelaw24.CoreRefused", spec := "coreRefused", inPlace := ["maps.clone"], unfollowed := true, recurses := true, apart := false }
def CoreRefusedSaid : Prop := coreRefusedRow.holds Tryz.pinned (OpenSpec.ofChange coreRefusedSpec)

/-- ITS FALSE NEIGHBOUR: 'it returns false'. Refute it at one input. -/
def coreRefusedWrong : ChangeSpec := { name := "coreRefused", fn := fun _ => fun
  | [d1, d2, d3] => { results := [.lit (.bool false)], args := [d1, d2, d3] }
  | _ => none }
def CoreRefusedWrongFalsely : Prop := coreRefusedRow.holds Tryz.pinned (OpenSpec.ofChange coreRefusedWrong)

/-- 'floodgatelaw24.CoreNil': WHATEVER THE INPUT: true; the input reads as it did. -/
def coreNilSpec : ChangeSpec := { name := "coreNil", fn := fun _ => fun
  | [d] => { results := [.lit (.bool true)], args := [d] }
  | _ => none }
def coreNilRow : OpenClaim := { program := "ytklmjinbhnoppaagreat", sum := "e339e437078fc5f8bf371c0aef7f1d9c55f72bb1864719b8e0b5e80665974444", func := "floodgate/floodgatelaw24.CoreNil", spec := "coreNil", inPlace := ["maps.clone"], unfollowed := true, recurses := true, apart := false }
def CoreNilSaid : Prop := coreNilRow.holds Tryz.pinned (OpenSpec.ofChange coreNilSpec)

/-- ITS FALSE NEIGHBOUR: 'it returns false'. Refute it at one input. -/
def coreNilWrong : ChangeSpec := { name := "coreNil", fn := fun _ => fun
  | [d] => { results := [.lit (.bool false)], args := [d] }
  | _ => none }
def CoreNilWrongFalsely : Prop := coreNilRow.holds Tryz.pinned (OpenSpec.ofChange coreNilWrong)

/-- 'floodgatelaw24.CoreActs': WHATEVER THE INPUT: true; the input reads as it did. -/
def coreActsSpec : ChangeSpec := { name := "coreActs", fn := fun _ => fun
  | [d1, d2] => { results := [.lit (.bool true)], args := [d1, d2] }
  | _ => none }
def coreActsRow : OpenClaim := { program := "ytklmjinbhnoppaagreat", sum := "e339e437078fc5f8bf371c0aef7f1d9c55f72bb1864719b8e0b5e80665974444", func := "floodgate/floodgatelaw24.CoreActs", spec := "coreActs", inPlace := ["maps.clone"], unfollowed := true, recurses := true, apart := false }
def CoreActsSaid : Prop := coreActsRow.holds Tryz.pinned (OpenSpec.ofChange coreActsSpec)

/-- ITS FALSE NEIGHBOUR: 'it returns false'. Refute it at one input. -/
def coreActsWrong : ChangeSpec := { name := "coreActs", fn := fun _ => fun
  | [d1, d2] => { results := [.lit (.bool false)], args := [d1, d2] }
  | _ => none }
def CoreActsWrongFalsely : Prop := coreActsRow.holds Tryz.pinned (OpenSpec.ofChange coreActsWrong)

/- THE SECOND FORM. 'bulk': how many values and letters a reading holds, each counted each time it is reached (what is shared counts as often as it is met; a slice's spare places count too). A statement '..UptoSaid' is the law's where the arguments, and the package variables that the reading takes, are together of bulk at most 1048576: NARROWER than '..Said'. Prove '..Said' where nothing that the law and all that it calls make is longer than what came in: it says more and counts as full. Else prove '..UptoSaid'. A law counts once. -/
mutual
def uptoBulk {H : Type} : DataW H → Nat
  | .lit (.string bytes) => bytes.length + 1
  | .lit _ => 1
  | .nil => 1
  | .ptr d => uptoBulk d + 1
  | .slice elems spare => uptoBulkAll elems + uptoBulkAll spare + 1
  | .agg parts => uptoBulkAll parts + 1
  | .iface _ d => uptoBulk d + 1
  | .map entries => uptoBulkEntries entries + 1
  | .held _ => 1
def uptoBulkAll {H : Type} : List (DataW H) → Nat
  | [] => 0
  | d :: r => uptoBulk d + uptoBulkAll r
def uptoBulkEntries {H : Type} : List (Lit × DataW H) → Nat
  | [] => 0
  | x :: r => uptoBulkEntry x + uptoBulkEntries r
def uptoBulkEntry {H : Type} : Lit × DataW H → Nat
  | (.string bytes, d) => bytes.length + uptoBulk d + 1
  | (_, d) => uptoBulk d + 1
 end
def uptoSmall : (H : Type) → List (DataW H) → Bool := fun _ ds => decide (uptoBulkAll ds ≤ 1048576)
def OpenSpec.upto (s : _root_.Go.ChangeSpec) : _root_.Go.OpenSpec := { _root_.Go.OpenSpec.ofChange s with cond := some uptoSmall }

/-- 'floodgatelaw24.CoreDue', WHERE WHAT IT READS IS OF BULK AT MOST 1048576: true; the input reads as it did. -/
def coreDueUptoRow : OpenClaim := { program := "ytklmjinbhnoppaagreat", sum := "e339e437078fc5f8bf371c0aef7f1d9c55f72bb1864719b8e0b5e80665974444", func := "floodgate/floodgatelaw24.CoreDue", spec := "coreDue", inPlace := ["maps.clone"], unfollowed := true, recurses := true, apart := false, narrowed := true }
def CoreDueUptoSaid : Prop := coreDueUptoRow.holds Tryz.pinned (OpenSpec.upto coreDueSpec)

/-- 'floodgatelaw24.CoreOrder', WHERE WHAT IT READS IS OF BULK AT MOST 1048576: true; the input reads as it did. -/
def coreOrderUptoRow : OpenClaim := { program := "ytklmjinbhnoppaagreat", sum := "e339e437078fc5f8bf371c0aef7f1d9c55f72bb1864719b8e0b5e80665974444", func := "floodgate/floodgatelaw24.CoreOrder", spec := "coreOrder", inPlace := ["maps.clone"], unfollowed := true, recurses := true, apart := false, narrowed := true }
def CoreOrderUptoSaid : Prop := coreOrderUptoRow.holds Tryz.pinned (OpenSpec.upto coreOrderSpec)

/-- 'floodgatelaw24.CoreTotals', WHERE WHAT IT READS IS OF BULK AT MOST 1048576: true; the input reads as it did. -/
def coreTotalsUptoRow : OpenClaim := { program := "ytklmjinbhnoppaagreat", sum := "e339e437078fc5f8bf371c0aef7f1d9c55f72bb1864719b8e0b5e80665974444", func := "floodgate/floodgatelaw24.CoreTotals", spec := "coreTotals", inPlace := ["maps.clone"], unfollowed := true, recurses := true, apart := false, narrowed := true }
def CoreTotalsUptoSaid : Prop := coreTotalsUptoRow.holds Tryz.pinned (OpenSpec.upto coreTotalsSpec)

/-- 'floodgatelaw24.CoreRefused', WHERE WHAT IT READS IS OF BULK AT MOST 1048576: true; the input reads as it did. -/
def coreRefusedUptoRow : OpenClaim := { program := "ytklmjinbhnoppaagreat", sum := "e339e437078fc5f8bf371c0aef7f1d9c55f72bb1864719b8e0b5e80665974444", func := "floodgate/floodgatelaw24.CoreRefused", spec := "coreRefused", inPlace := ["maps.clone"], unfollowed := true, recurses := true, apart := false, narrowed := true }
def CoreRefusedUptoSaid : Prop := coreRefusedUptoRow.holds Tryz.pinned (OpenSpec.upto coreRefusedSpec)

/-- 'floodgatelaw24.CoreNil', WHERE WHAT IT READS IS OF BULK AT MOST 1048576: true; the input reads as it did. -/
def coreNilUptoRow : OpenClaim := { program := "ytklmjinbhnoppaagreat", sum := "e339e437078fc5f8bf371c0aef7f1d9c55f72bb1864719b8e0b5e80665974444", func := "floodgate/floodgatelaw24.CoreNil", spec := "coreNil", inPlace := ["maps.clone"], unfollowed := true, recurses := true, apart := false, narrowed := true }
def CoreNilUptoSaid : Prop := coreNilUptoRow.holds Tryz.pinned (OpenSpec.upto coreNilSpec)

/-- 'floodgatelaw24.CoreActs', WHERE WHAT IT READS IS OF BULK AT MOST 1048576: true; the input reads as it did. -/
def coreActsUptoRow : OpenClaim := { program := "ytklmjinbhnoppaagreat", sum := "e339e437078fc5f8bf371c0aef7f1d9c55f72bb1864719b8e0b5e80665974444", func := "floodgate/floodgatelaw24.CoreActs", spec := "coreActs", inPlace := ["maps.clone"], unfollowed := true, recurses := true, apart := false, narrowed := true }
def CoreActsUptoSaid : Prop := coreActsUptoRow.holds Tryz.pinned (OpenSpec.upto coreActsSpec)

end Rows
end Go.Proofs.YtklmjinbhnoppaaGreat
