/-
  No cell of these rows narrows 'for every input' (looked for: loops, veiled, ifaces, maps, wideKeys, modest, calm, conditions, laid).
  DERIVED. THE GIVEN ROWS OF THIS SEAT. 3 by the template 'for every input the law returns true; each argument reads behind the call as it read before'; 0 by the template 'total and deterministic' (their statements: YtbemejcgkfieeaaGreatTotals.lean).
  GIVEN WITH THE SEED: the statements are not yours to turn. If you find one false, say at which input.
  Laid BY PROGRAM, IN A SANDBOX (cutbox-rows.mjs): the forced cells as the released guide's own fill.sh prints them over the translation f2dacf891010012a… (all of the seat's roots in one cut). By AI agents, Wed Nov 11 2026. No macro, syntax, notation, axiom, sorry.
-/
import Derived.Test.YtbemejcgkfieeaaGreatChecked
import GoSem.Claim
import GoSem.ClaimJoined
import GoSem.ClaimMapViews
import Derived.JoinedTies
import Derived.KernelRfl
namespace Go.Proofs.YtbemejcgkfieeaaGreat
/- THE CELL 'sum', in the pinned program and in every row, IS THE sha256 OF THE DUMP (.gsa) THAT YtbemejcgkfieeaaGreatProg.lean LOADS. Nothing in Lean hashes anything: it is a label: what it is worth is what the hold of that sum in a sandbox is worth. -/
noncomputable def Tryz.pinned : Pinned := { name := "ytbemejcgkfieeaagreat", sum := "f2dacf891010012ae3999c23b4d8a4e26addb55b74e41ed614dbbc776504d756", checked := Tryz.checked }
namespace Rows
def none {H : Type} : Left H := { results := [], args := [] }

/-- 'floodgatetop.WholeGuarantee': WHATEVER THE INPUT: true; the input reads as it did. -/
def wholeGuaranteeSpec : ChangeSpec := { name := "wholeGuarantee", fn := fun _ => fun
  | [d] => { results := [.lit (.bool true)], args := [d] }
  | _ => none }
def wholeGuaranteeRow : OpenClaim := { program := "ytbemejcgkfieeaagreat", sum := "f2dacf891010012ae3999c23b4d8a4e26addb55b74e41ed614dbbc776504d756", func := "floodgate/floodgatetop.WholeGuarantee", spec := "wholeGuarantee", inPlace := ["maps.clone"], unfollowed := true, recurses := true, plainKeys := false, apart := false }
def WholeGuaranteeSaid : Prop := wholeGuaranteeRow.holds Tryz.pinned (OpenSpec.ofChange wholeGuaranteeSpec)

/-- ITS FALSE NEIGHBOUR: 'it returns false'. Refute it at one input. -/
def wholeGuaranteeWrong : ChangeSpec := { name := "wholeGuarantee", fn := fun _ => fun
  | [d] => { results := [.lit (.bool false)], args := [d] }
  | _ => none }
def WholeGuaranteeWrongFalsely : Prop := wholeGuaranteeRow.holds Tryz.pinned (OpenSpec.ofChange wholeGuaranteeWrong)

/-- 'floodgatetop.WholeLimit': WHATEVER THE INPUT: true; the input reads as it did. -/
def wholeLimitSpec : ChangeSpec := { name := "wholeLimit", fn := fun _ => fun
  | [d] => { results := [.lit (.bool true)], args := [d] }
  | _ => none }
def wholeLimitRow : OpenClaim := { program := "ytbemejcgkfieeaagreat", sum := "f2dacf891010012ae3999c23b4d8a4e26addb55b74e41ed614dbbc776504d756", func := "floodgate/floodgatetop.WholeLimit", spec := "wholeLimit", inPlace := ["maps.clone"], unfollowed := true, recurses := true, plainKeys := false, apart := false }
def WholeLimitSaid : Prop := wholeLimitRow.holds Tryz.pinned (OpenSpec.ofChange wholeLimitSpec)

/-- ITS FALSE NEIGHBOUR: 'it returns false'. Refute it at one input. -/
def wholeLimitWrong : ChangeSpec := { name := "wholeLimit", fn := fun _ => fun
  | [d] => { results := [.lit (.bool false)], args := [d] }
  | _ => none }
def WholeLimitWrongFalsely : Prop := wholeLimitRow.holds Tryz.pinned (OpenSpec.ofChange wholeLimitWrong)

/-- 'floodgatetop.WholeDrains': WHATEVER THE INPUT: true; the input reads as it did. -/
def wholeDrainsSpec : ChangeSpec := { name := "wholeDrains", fn := fun _ => fun
  | [d1, d2] => { results := [.lit (.bool true)], args := [d1, d2] }
  | _ => none }
def wholeDrainsRow : OpenClaim := { program := "ytbemejcgkfieeaagreat", sum := "f2dacf891010012ae3999c23b4d8a4e26addb55b74e41ed614dbbc776504d756", func := "floodgate/floodgatetop.WholeDrains", spec := "wholeDrains", inPlace := ["maps.clone"], unfollowed := true, recurses := true, plainKeys := false, apart := false }
def WholeDrainsSaid : Prop := wholeDrainsRow.holds Tryz.pinned (OpenSpec.ofChange wholeDrainsSpec)

/-- ITS FALSE NEIGHBOUR: 'it returns false'. Refute it at one input. -/
def wholeDrainsWrong : ChangeSpec := { name := "wholeDrains", fn := fun _ => fun
  | [d1, d2] => { results := [.lit (.bool false)], args := [d1, d2] }
  | _ => none }
def WholeDrainsWrongFalsely : Prop := wholeDrainsRow.holds Tryz.pinned (OpenSpec.ofChange wholeDrainsWrong)

/- THE SECOND FORM. 'bulk': how many values and letters a reading holds, each counted each time it is reached (what is shared counts as often as it is met; a slice's spare places count too). A statement '..UptoSaid' is the law's where the arguments, and the package variables that the reading takes, are together of bulk at most 1048576: NARROWER than '..Said'. Prove '..Said' where nothing that the law and all that it calls make is longer than what came in: it says more and counts as full. Else prove '..UptoSaid'. A law counts once. -/
mutual
def uptoBulk {H : Type} : DataW H → Nat
  | .lit (.string bytes) => bytes.length + 1
  | .lit _ => 1
  | .nil => 1
  | .ptr d => uptoBulk d + 1
  | .slice elems spare => uptoBulkAll elems + uptoBulkAll spare + 1
  | .agg parts => uptoBulkAll parts + 1
  | .iface _ d => uptoBulk d + 1
  | .map entries => uptoBulkEntries entries + 1
  | .held _ => 1
def uptoBulkAll {H : Type} : List (DataW H) → Nat
  | [] => 0
  | d :: r => uptoBulk d + uptoBulkAll r
def uptoBulkEntries {H : Type} : List (Lit × DataW H) → Nat
  | [] => 0
  | x :: r => uptoBulkEntry x + uptoBulkEntries r
def uptoBulkEntry {H : Type} : Lit × DataW H → Nat
  | (.string bytes, d) => bytes.length + uptoBulk d + 1
  | (_, d) => uptoBulk d + 1
 end
def uptoSmall : (H : Type) → List (DataW H) → Bool := fun _ ds => decide (uptoBulkAll ds ≤ 1048576)
def OpenSpec.upto (s : _root_.Go.ChangeSpec) : _root_.Go.OpenSpec := { _root_.Go.OpenSpec.ofChange s with cond := some uptoSmall }

/-- 'floodgatetop.WholeGuarantee', WHERE WHAT IT READS IS OF BULK AT MOST 1048576: true; the input reads as it did. -/
def wholeGuaranteeUptoRow : OpenClaim := { program := "ytbemejcgkfieeaagreat", sum := "f2dacf891010012ae3999c23b4d8a4e26addb55b74e41ed614dbbc776504d756", func := "floodgate/floodgatetop.WholeGuarantee", spec := "wholeGuarantee", inPlace := ["maps.clone"], unfollowed := true, recurses := true, plainKeys := false, apart := false, narrowed := true }
def WholeGuaranteeUptoSaid : Prop := wholeGuaranteeUptoRow.holds Tryz.pinned (OpenSpec.upto wholeGuaranteeSpec)

/-- 'floodgatetop.WholeLimit', WHERE WHAT IT READS IS OF BULK AT MOST 1048576: true; the input reads as it did. -/
def wholeLimitUptoRow : OpenClaim := { program := "ytbemejcgkfieeaagreat", sum := "f2dacf891010012ae3999c23b4d8a4e26addb55b74e41ed614dbbc776504d756", func := "floodgate/floodgatetop.WholeLimit", spec := "wholeLimit", inPlace := ["maps.clone"], unfollowed := true, recurses := true, plainKeys := false, apart := false, narrowed := true }
def WholeLimitUptoSaid : Prop := wholeLimitUptoRow.holds Tryz.pinned (OpenSpec.upto wholeLimitSpec)

/-- 'floodgatetop.WholeDrains', WHERE WHAT IT READS IS OF BULK AT MOST 1048576: true; the input reads as it did. -/
def wholeDrainsUptoRow : OpenClaim := { program := "ytbemejcgkfieeaagreat", sum := "f2dacf891010012ae3999c23b4d8a4e26addb55b74e41ed614dbbc776504d756", func := "floodgate/floodgatetop.WholeDrains", spec := "wholeDrains", inPlace := ["maps.clone"], unfollowed := true, recurses := true, plainKeys := false, apart := false, narrowed := true }
def WholeDrainsUptoSaid : Prop := wholeDrainsUptoRow.holds Tryz.pinned (OpenSpec.upto wholeDrainsSpec)

end Rows
end Go.Proofs.YtbemejcgkfieeaaGreat
