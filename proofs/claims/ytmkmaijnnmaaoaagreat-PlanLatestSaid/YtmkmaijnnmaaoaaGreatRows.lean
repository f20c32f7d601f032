/-
  No cell of these rows narrows 'for every input' (looked for: loops, veiled, ifaces, maps, wideKeys, modest, calm, conditions, laid).
  DERIVED. THE GIVEN ROWS OF THIS SEAT. 3 by the template 'for every input the law returns true; each argument reads behind the call as it read before'; 0 by the template 'total and deterministic' (their statements: YtmkmaijnnmaaoaaGreatTotals.lean).
  GIVEN WITH THE SEED: the statements are not yours to turn. If you find one false, say at which input.
  Laid BY PROGRAM, IN A SANDBOX (cutbox-rows.mjs): the forced cells as the released guide's own fill.sh prints them over the translation 1d707589547a8d2a… (all of the seat's roots in one cut). By AI agents, Wed Nov 11 2026. No macro, syntax, notation, axiom, sorry.
-/
import Derived.Test.YtmkmaijnnmaaoaaGreatChecked
import GoSem.Claim
import GoSem.ClaimJoined
import GoSem.ClaimMapViews
import Derived.JoinedTies
import Derived.KernelRfl
namespace Go.Proofs.YtmkmaijnnmaaoaaGreat
/- THE CELL 'sum', in the pinned program and in every row, IS THE sha256 OF THE DUMP (.gsa) THAT YtmkmaijnnmaaoaaGreatProg.lean LOADS. Nothing in Lean hashes anything: it is a label: what it is worth is what the hold of that sum in a sandbox is worth. -/
noncomputable def Tryz.pinned : Pinned := { name := "ytmkmaijnnmaaoaagreat", sum := "1d707589547a8d2adfec268ac99262f55bb2d7d6a34d5a8c0abeed4dfdd46d4e", checked := Tryz.checked }
namespace Rows
def none {H : Type} : Left H := { results := [], args := [] }

/-- 'floodgatelaw48.ConformDelay': WHATEVER THE INPUT: true; the input reads as it did. -/
def conformDelaySpec : ChangeSpec := { name := "conformDelay", fn := fun _ => fun
  | [d] => { results := [.lit (.bool true)], args := [d] }
  | _ => none }
def conformDelayRow : OpenClaim := { program := "ytmkmaijnnmaaoaagreat", sum := "1d707589547a8d2adfec268ac99262f55bb2d7d6a34d5a8c0abeed4dfdd46d4e", func := "floodgate/floodgatelaw48.ConformDelay", spec := "conformDelay", inPlace := ["maps.clone"], unfollowed := true, recurses := true, plainKeys := false, apart := false }
def ConformDelaySaid : Prop := conformDelayRow.holds Tryz.pinned (OpenSpec.ofChange conformDelaySpec)

/-- ITS FALSE NEIGHBOUR: 'it returns false'. Refute it at one input. -/
def conformDelayWrong : ChangeSpec := { name := "conformDelay", fn := fun _ => fun
  | [d] => { results := [.lit (.bool false)], args := [d] }
  | _ => none }
def ConformDelayWrongFalsely : Prop := conformDelayRow.holds Tryz.pinned (OpenSpec.ofChange conformDelayWrong)

/-- 'floodgatelaw32.ServeGuarantee': WHATEVER THE INPUT: true; the input reads as it did. -/
def serveGuaranteeSpec : ChangeSpec := { name := "serveGuarantee", fn := fun _ => fun
  | [d] => { results := [.lit (.bool true)], args := [d] }
  | _ => none }
def serveGuaranteeRow : OpenClaim := { program := "ytmkmaijnnmaaoaagreat", sum := "1d707589547a8d2adfec268ac99262f55bb2d7d6a34d5a8c0abeed4dfdd46d4e", func := "floodgate/floodgatelaw32.ServeGuarantee", spec := "serveGuarantee", inPlace := ["maps.clone"], unfollowed := true, recurses := true, plainKeys := false, apart := false }
def ServeGuaranteeSaid : Prop := serveGuaranteeRow.holds Tryz.pinned (OpenSpec.ofChange serveGuaranteeSpec)

/-- ITS FALSE NEIGHBOUR: 'it returns false'. Refute it at one input. -/
def serveGuaranteeWrong : ChangeSpec := { name := "serveGuarantee", fn := fun _ => fun
  | [d] => { results := [.lit (.bool false)], args := [d] }
  | _ => none }
def ServeGuaranteeWrongFalsely : Prop := serveGuaranteeRow.holds Tryz.pinned (OpenSpec.ofChange serveGuaranteeWrong)

/-- 'floodgatelaw38.PlanLatest': WHATEVER THE INPUT: true; the input reads as it did. -/
def planLatestSpec : ChangeSpec := { name := "planLatest", fn := fun _ => fun
  | [d] => { results := [.lit (.bool true)], args := [d] }
  | _ => none }
def planLatestRow : OpenClaim := { program := "ytmkmaijnnmaaoaagreat", sum := "1d707589547a8d2adfec268ac99262f55bb2d7d6a34d5a8c0abeed4dfdd46d4e", func := "floodgate/floodgatelaw38.PlanLatest", spec := "planLatest", inPlace := ["maps.clone"], unfollowed := true, recurses := true, plainKeys := false, apart := false }
def PlanLatestSaid : Prop := planLatestRow.holds Tryz.pinned (OpenSpec.ofChange planLatestSpec)

/-- ITS FALSE NEIGHBOUR: 'it returns false'. Refute it at one input. -/
def planLatestWrong : ChangeSpec := { name := "planLatest", fn := fun _ => fun
  | [d] => { results := [.lit (.bool false)], args := [d] }
  | _ => none }
def PlanLatestWrongFalsely : Prop := planLatestRow.holds Tryz.pinned (OpenSpec.ofChange planLatestWrong)

/- THE SECOND FORM. 'bulk': how many values and letters a reading holds, each counted each time it is reached (what is shared counts as often as it is met; a slice's spare places count too). A statement '..UptoSaid' is the law's where the arguments, and the package variables that the reading takes, are together of bulk at most 1048576: NARROWER than '..Said'. Prove '..Said' where nothing that the law and all that it calls make is longer than what came in: it says more and counts as full. Else prove '..UptoSaid'. A law counts once. -/
mutual
def uptoBulk {H : Type} : DataW H → Nat
  | .lit (.string bytes) => bytes.length + 1
  | .lit _ => 1
  | .nil => 1
  | .ptr d => uptoBulk d + 1
  | .slice elems spare => uptoBulkAll elems + uptoBulkAll spare + 1
  | .agg parts => uptoBulkAll parts + 1
  | .iface _ d => uptoBulk d + 1
  | .map entries => uptoBulkEntries entries + 1
  | .held _ => 1
def uptoBulkAll {H : Type} : List (DataW H) → Nat
  | [] => 0
  | d :: r => uptoBulk d + uptoBulkAll r
def uptoBulkEntries {H : Type} : List (Lit × DataW H) → Nat
  | [] => 0
  | x :: r => uptoBulkEntry x + uptoBulkEntries r
def uptoBulkEntry {H : Type} : Lit × DataW H → Nat
  | (.string bytes, d) => bytes.length + uptoBulk d + 1
  | (_, d) => uptoBulk d + 1
 end
def uptoSmall : (H : Type) → List (DataW H) → Bool := fun _ ds => decide (uptoBulkAll ds ≤ 1048576)
def OpenSpec.upto (s : _root_.Go.ChangeSpec) : _root_.Go.OpenSpec := { _root_.Go.OpenSpec.ofChange s with cond := some uptoSmall }

/-- 'floodgatelaw48.ConformDelay', WHERE WHAT IT READS IS OF BULK AT MOST 1048576: true; the input reads as it did. -/
def conformDelayUptoRow : OpenClaim := { program := "ytmkmaijnnmaaoaagreat", sum := "1d707589547a8d2adfec268ac99262f55bb2d7d6a34d5a8c0abeed4dfdd46d4e", func := "floodgate/floodgatelaw48.ConformDelay", spec := "conformDelay", inPlace := ["maps.clone"], unfollowed := true, recurses := true, plainKeys := false, apart := false, narrowed := true }
def ConformDelayUptoSaid : Prop := conformDelayUptoRow.holds Tryz.pinned (OpenSpec.upto conformDelaySpec)

/-- 'floodgatelaw32.ServeGuarantee', WHERE WHAT IT READS IS OF BULK AT MOST 1048576: true; the input reads as it did. -/
def serveGuaranteeUptoRow : OpenClaim := { program := "ytmkmaijnnmaaoaagreat", sum := "1d707589547a8d2adfec268ac99262f55bb2d7d6a34d5a8c0abeed4dfdd46d4e", func := "floodgate/floodgatelaw32.ServeGuarantee", spec := "serveGuarantee", inPlace := ["maps.clone"], unfollowed := true, recurses := true, plainKeys := false, apart := false, narrowed := true }
def ServeGuaranteeUptoSaid : Prop := serveGuaranteeUptoRow.holds Tryz.pinned (OpenSpec.upto serveGuaranteeSpec)

/-- 'floodgatelaw38.PlanLatest', WHERE WHAT IT READS IS OF BULK AT MOST 1048576: true; the input reads as it did. -/
def planLatestUptoRow : OpenClaim := { program := "ytmkmaijnnmaaoaagreat", sum := "1d707589547a8d2adfec268ac99262f55bb2d7d6a34d5a8c0abeed4dfdd46d4e", func := "floodgate/floodgatelaw38.PlanLatest", spec := "planLatest", inPlace := ["maps.clone"], unfollowed := true, recurses := true, plainKeys := false, apart := false, narrowed := true }
def PlanLatestUptoSaid : Prop := planLatestUptoRow.holds Tryz.pinned (OpenSpec.upto planLatestSpec)

end Rows
end Go.Proofs.YtmkmaijnnmaaoaaGreat
