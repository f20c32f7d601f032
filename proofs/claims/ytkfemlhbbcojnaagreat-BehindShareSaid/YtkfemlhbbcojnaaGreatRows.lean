/-
  No cell of these rows narrows 'for every input' (looked for: loops, veiled, ifaces, maps, wideKeys, modest, calm, conditions, laid).
  DERIVED. THE GIVEN ROWS OF THIS SEAT. 9 by the template 'for every input the law returns true; each argument reads behind the call as it read before'; 0 by the template 'total and deterministic' (their statements: YtkfemlhbbcojnaaGreatTotals.lean).
  GIVEN WITH THE SEED: the statements are not yours to turn. If you find one false, say at which input.
  Laid BY PROGRAM, IN A SANDBOX (cutbox-rows.mjs): the forced cells as the released guide's own fill.sh prints them over the translation 2ef70744ad6d7a0b… (all of the seat's roots in one cut). By AI agents, Wed Nov 11 2026. No macro, syntax, notation, axiom, sorry.
-/
import Derived.Test.YtkfemlhbbcojnaaGreatChecked
import GoSem.Claim
import GoSem.ClaimJoined
import GoSem.ClaimMapViews
import Derived.JoinedTies
import Derived.KernelRfl
namespace Go.Proofs.YtkfemlhbbcojnaaGreat
/- THE CELL 'sum', in the pinned program and in every row, IS THE sha256 OF THE DUMP (.gsa) THAT YtkfemlhbbcojnaaGreatProg.lean LOADS. Nothing in Lean hashes anything: it is a label: what it is worth is what the hold of that sum in a sandbox is worth. -/
noncomputable def Tryz.pinned : Pinned := { name := "ytkfemlhbbcojnaagreat", sum := "2ef70744ad6d7a0bbe44a514ce6080218f5b93ac52e4ac1ae37d9031b413bdac", checked := Tryz.checked }
namespace Rows
def none {H : Type} : Left H := { results := [], args := [] }

/-- 'floodgatelaw29.ScriptRuns': WHATEVER THE INPUT: true; the input reads as it did. -/
def scriptRunsSpec : ChangeSpec := { name := "scriptRuns", fn := fun _ => fun
  | [d] => { results := [.lit (.bool true)], args := [d] }
  | _ => none }
def scriptRunsRow : OpenClaim := { program := "ytkfemlhbbcojnaagreat", sum := "2ef70744ad6d7a0bbe44a514ce6080218f5b93ac52e4ac1ae37d9031b413bdac", func := "floodgate/floodgatelaw29.ScriptRuns", spec := "scriptRuns", inPlace := ["maps.clone"], unfollowed := true, recurses := true, plainKeys := false, apart := false }
def ScriptRunsSaid : Prop := scriptRunsRow.holds Tryz.pinned (OpenSpec.ofChange scriptRunsSpec)

/-- ITS FALSE NEIGHBOUR: 'it returns false'. Refute it at one input. -/
def scriptRunsWrong : ChangeSpec := { name := "scriptRuns", fn := fun _ => fun
  | [d] => { results := [.lit (.bool false)], args := [d] }
  | _ => none }
def ScriptRunsWrongFalsely : Prop := scriptRunsRow.holds Tryz.pinned (OpenSpec.ofChange scriptRunsWrong)

/-- 'floodgatelaw34.LimitKeeps': WHATEVER THE INPUT: true; the input reads as it did. -/
def limitKeepsSpec : ChangeSpec := { name := "limitKeeps", fn := fun _ => fun
  | [d] => { results := [.lit (.bool true)], args := [d] }
  | _ => none }
def limitKeepsRow : OpenClaim := { program := "ytkfemlhbbcojnaagreat", sum := "2ef70744ad6d7a0bbe44a514ce6080218f5b93ac52e4ac1ae37d9031b413bdac", func := "floodgate/floodgatelaw34.LimitKeeps", spec := "limitKeeps", inPlace := ["maps.clone"], unfollowed := true, recurses := true, plainKeys := false, apart := false }
def LimitKeepsSaid : Prop := limitKeepsRow.holds Tryz.pinned (OpenSpec.ofChange limitKeepsSpec)

/-- ITS FALSE NEIGHBOUR: 'it returns false'. Refute it at one input. -/
def limitKeepsWrong : ChangeSpec := { name := "limitKeeps", fn := fun _ => fun
  | [d] => { results := [.lit (.bool false)], args := [d] }
  | _ => none }
def LimitKeepsWrongFalsely : Prop := limitKeepsRow.holds Tryz.pinned (OpenSpec.ofChange limitKeepsWrong)

/-- 'floodgatelaw34.LimitLasts': WHATEVER THE INPUT: true; the input reads as it did. -/
def limitLastsSpec : ChangeSpec := { name := "limitLasts", fn := fun _ => fun
  | [d1, d2] => { results := [.lit (.bool true)], args := [d1, d2] }
  | _ => none }
def limitLastsRow : OpenClaim := { program := "ytkfemlhbbcojnaagreat", sum := "2ef70744ad6d7a0bbe44a514ce6080218f5b93ac52e4ac1ae37d9031b413bdac", func := "floodgate/floodgatelaw34.LimitLasts", spec := "limitLasts", inPlace := ["maps.clone"], unfollowed := true, recurses := true, plainKeys := false, apart := false }
def LimitLastsSaid : Prop := limitLastsRow.holds Tryz.pinned (OpenSpec.ofChange limitLastsSpec)

/-- ITS FALSE NEIGHBOUR: 'it returns false'. Refute it at one input. -/
def limitLastsWrong : ChangeSpec := { name := "limitLasts", fn := fun _ => fun
  | [d1, d2] => { results := [.lit (.bool false)], args := [d1, d2] }
  | _ => none }
def LimitLastsWrongFalsely : Prop := limitLastsRow.holds Tryz.pinned (OpenSpec.ofChange limitLastsWrong)

/-- 'floodgatelaw32.ServeGuarantee': WHATEVER THE INPUT: true; the input reads as it did. -/
def serveGuaranteeSpec : ChangeSpec := { name := "serveGuarantee", fn := fun _ => fun
  | [d] => { results := [.lit (.bool true)], args := [d] }
  | _ => none }
def serveGuaranteeRow : OpenClaim := { program := "ytkfemlhbbcojnaagreat", sum := "2ef70744ad6d7a0bbe44a514ce6080218f5b93ac52e4ac1ae37d9031b413bdac", func := "floodgate/floodgatelaw32.ServeGuarantee", spec := "serveGuarantee", inPlace := ["maps.clone"], unfollowed := true, recurses := true, plainKeys := false, apart := false }
def ServeGuaranteeSaid : Prop := serveGuaranteeRow.holds Tryz.pinned (OpenSpec.ofChange serveGuaranteeSpec)

/-- ITS FALSE NEIGHBOUR: 'it returns false'. Refute it at one input. -/
def serveGuaranteeWrong : ChangeSpec := { name := "serveGuarantee", fn := fun _ => fun
  | [d] => { results := [.lit (.bool false)], args := [d] }
  | _ => none }
def ServeGuaranteeWrongFalsely : Prop := serveGuaranteeRow.holds Tryz.pinned (OpenSpec.ofChange serveGuaranteeWrong)

/-- 'floodgatelaw38.PlanLatest': WHATEVER THE INPUT: true; the input reads as it did. -/
def planLatestSpec : ChangeSpec := { name := "planLatest", fn := fun _ => fun
  | [d] => { results := [.lit (.bool true)], args := [d] }
  | _ => none }
def planLatestRow : OpenClaim := { program := "ytkfemlhbbcojnaagreat", sum := "2ef70744ad6d7a0bbe44a514ce6080218f5b93ac52e4ac1ae37d9031b413bdac", func := "floodgate/floodgatelaw38.PlanLatest", spec := "planLatest", inPlace := ["maps.clone"], unfollowed := true, recurses := true, plainKeys := false, apart := false }
def PlanLatestSaid : Prop := planLatestRow.holds Tryz.pinned (OpenSpec.ofChange planLatestSpec)

/-- ITS FALSE NEIGHBOUR: 'it returns false'. Refute it at one input. -/
def planLatestWrong : ChangeSpec := { name := "planLatest", fn := fun _ => fun
  | [d] => { results := [.lit (.bool false)], args := [d] }
  | _ => none }
def PlanLatestWrongFalsely : Prop := planLatestRow.holds Tryz.pinned (OpenSpec.ofChange planLatestWrong)

/-- 'floodgatelaw33.FairShares': WHATEVER THE INPUT: true; the input reads as it did. -/
def fairSharesSpec : ChangeSpec := { name := "fairShares", fn := fun _ => fun
  | [d1, d2, d3] => { results := [.lit (.bool true)], args := [d1, d2, d3] }
  | _ => none }
def fairSharesRow : OpenClaim := { program := "ytkfemlhbbcojnaagreat", sum := "2ef70744ad6d7a0bbe44a514ce6080218f5b93ac52e4ac1ae37d9031b413bdac", func := "floodgate/floodgatelaw33.FairShares", spec := "fairShares", inPlace := ["maps.clone"], unfollowed := true, recurses := true, plainKeys := false, apart := false }
def FairSharesSaid : Prop := fairSharesRow.holds Tryz.pinned (OpenSpec.ofChange fairSharesSpec)

/-- ITS FALSE NEIGHBOUR: 'it returns false'. Refute it at one input. -/
def fairSharesWrong : ChangeSpec := { name := "fairShares", fn := fun _ => fun
  | [d1, d2, d3] => { results := [.lit (.bool false)], args := [d1, d2, d3] }
  | _ => none }
def FairSharesWrongFalsely : Prop := fairSharesRow.holds Tryz.pinned (OpenSpec.ofChange fairSharesWrong)

/-- 'floodgatelaw49.BehindNone': WHATEVER THE INPUT: true; the input reads as it did. -/
def behindNoneSpec : ChangeSpec := { name := "behindNone", fn := fun _ => fun
  | [d1, d2, d3] => { results := [.lit (.bool true)], args := [d1, d2, d3] }
  | _ => none }
def behindNoneRow : OpenClaim := { program := "ytkfemlhbbcojnaagreat", sum := "2ef70744ad6d7a0bbe44a514ce6080218f5b93ac52e4ac1ae37d9031b413bdac", func := "floodgate/floodgatelaw49.BehindNone", spec := "behindNone", inPlace := ["maps.clone"], unfollowed := true, recurses := true, plainKeys := false, apart := false }
def BehindNoneSaid : Prop := behindNoneRow.holds Tryz.pinned (OpenSpec.ofChange behindNoneSpec)

/-- ITS FALSE NEIGHBOUR: 'it returns false'. Refute it at one input. -/
def behindNoneWrong : ChangeSpec := { name := "behindNone", fn := fun _ => fun
  | [d1, d2, d3] => { results := [.lit (.bool false)], args := [d1, d2, d3] }
  | _ => none }
def BehindNoneWrongFalsely : Prop := behindNoneRow.holds Tryz.pinned (OpenSpec.ofChange behindNoneWrong)

/-- 'floodgatelaw48.ConformDelay': WHATEVER THE INPUT: true; the input reads as it did. -/
def conformDelaySpec : ChangeSpec := { name := "conformDelay", fn := fun _ => fun
  | [d] => { results := [.lit (.bool true)], args := [d] }
  | _ => none }
def conformDelayRow : OpenClaim := { program := "ytkfemlhbbcojnaagreat", sum := "2ef70744ad6d7a0bbe44a514ce6080218f5b93ac52e4ac1ae37d9031b413bdac", func := "floodgate/floodgatelaw48.ConformDelay", spec := "conformDelay", inPlace := ["maps.clone"], unfollowed := true, recurses := true, plainKeys := false, apart := false }
def ConformDelaySaid : Prop := conformDelayRow.holds Tryz.pinned (OpenSpec.ofChange conformDelaySpec)

/-- ITS FALSE NEIGHBOUR: 'it returns false'. Refute it at one input. -/
def conformDelayWrong : ChangeSpec := { name := "conformDelay", fn := fun _ => fun
  | [d] => { results := [.lit (.bool false)], args := [d] }
  | _ => none }
def ConformDelayWrongFalsely : Prop := conformDelayRow.holds Tryz.pinned (OpenSpec.ofChange conformDelayWrong)

/-- 'floodgatelaw49.BehindShare': WHATEVER THE INPUT: true; the input reads as it did. -/
def behindShareSpec : ChangeSpec := { name := "behindShare", fn := fun _ => fun
  | [d1, d2] => { results := [.lit (.bool true)], args := [d1, d2] }
  | _ => none }
def behindShareRow : OpenClaim := { program := "ytkfemlhbbcojnaagreat", sum := "2ef70744ad6d7a0bbe44a514ce6080218f5b93ac52e4ac1ae37d9031b413bdac", func := "floodgate/floodgatelaw49.BehindShare", spec := "behindShare", inPlace := ["maps.clone"], unfollowed := true, recurses := true, plainKeys := false, apart := false }
def BehindShareSaid : Prop := behindShareRow.holds Tryz.pinned (OpenSpec.ofChange behindShareSpec)

/-- ITS FALSE NEIGHBOUR: 'it returns false'. Refute it at one input. -/
def behindShareWrong : ChangeSpec := { name := "behindShare", fn := fun _ => fun
  | [d1, d2] => { results := [.lit (.bool false)], args := [d1, d2] }
  | _ => none }
def BehindShareWrongFalsely : Prop := behindShareRow.holds Tryz.pinned (OpenSpec.ofChange behindShareWrong)

/- THE SECOND FORM. 'bulk': how many values and letters a reading holds, each counted each time it is reached (what is shared counts as often as it is met; a slice's spare places count too). A statement '..UptoSaid' is the law's where the arguments, and the package variables that the reading takes, are together of bulk at most 1048576: NARROWER than '..Said'. Prove '..Said' where nothing that the law and all that it calls make is longer than what came in: it says more and counts as full. Else prove '..UptoSaid'. A law counts once. -/
mutual
def uptoBulk {H : Type} : DataW H → Nat
  | .lit (.string bytes) => bytes.length + 1
  | .lit _ => 1
  | .nil => 1
  | .ptr d => uptoBulk d + 1
  | .slice elems spare => uptoBulkAll elems + uptoBulkAll spare + 1
  | .agg parts => uptoBulkAll parts + 1
  | .iface _ d => uptoBulk d + 1
  | .map entries => uptoBulkEntries entries + 1
  | .held _ => 1
def uptoBulkAll {H : Type} : List (DataW H) → Nat
  | [] => 0
  | d :: r => uptoBulk d + uptoBulkAll r
def uptoBulkEntries {H : Type} : List (Lit × DataW H) → Nat
  | [] => 0
  | x :: r => uptoBulkEntry x + uptoBulkEntries r
def uptoBulkEntry {H : Type} : Lit × DataW H → Nat
  | (.string bytes, d) => bytes.length + uptoBulk d + 1
  | (_, d) => uptoBulk d + 1
 end
def uptoSmall : (H : Type) → List (DataW H) → Bool := fun _ ds => decide (uptoBulkAll ds ≤ 1048576)
def OpenSpec.upto (s : _root_.Go.ChangeSpec) : _root_.Go.OpenSpec := { _root_.Go.OpenSpec.ofChange s with cond := some uptoSmall }

/-- 'floodgatelaw29.ScriptRuns', WHERE WHAT IT READS IS OF BULK AT MOST 1048576: true; the input reads as it did. -/
def scriptRunsUptoRow : OpenClaim := { program := "ytkfemlhbbcojnaagreat", sum := "2ef70744ad6d7a0bbe44a514ce6080218f5b93ac52e4ac1ae37d9031b413bdac", func := "floodgate/floodgatelaw29.ScriptRuns", spec := "scriptRuns", inPlace := ["maps.clone"], unfollowed := true, recurses := true, plainKeys := false, apart := false, narrowed := true }
def ScriptRunsUptoSaid : Prop := scriptRunsUptoRow.holds Tryz.pinned (OpenSpec.upto scriptRunsSpec)

/-- 'floodgatelaw34.LimitKeeps', WHERE WHAT IT READS IS OF BULK AT MOST 1048576: true; the input reads as it did. -/
def limitKeepsUptoRow : OpenClaim := { program := "ytkfemlhbbcojnaagreat", sum := "2ef70744ad6d7a0bbe44a514ce6080218f5b93ac52e4ac1ae37d9031b413bdac", func := "floodgate/floodgatelaw34.LimitKeeps", spec := "limitKeeps", inPlace := ["maps.clone"], unfollowed := true, recurses := true, plainKeys := false, apart := false, narrowed := true }
def LimitKeepsUptoSaid : Prop := limitKeepsUptoRow.holds Tryz.pinned (OpenSpec.upto limitKeepsSpec)

/-- 'floodgatelaw34.LimitLasts', WHERE WHAT IT READS IS OF BULK AT MOST 1048576: true; the input reads as it did. -/
def limitLastsUptoRow : OpenClaim := { program := "ytkfemlhbbcojnaagreat", sum := "2ef70744ad6d7a0bbe44a514ce6080218f5b93ac52e4ac1ae37d9031b413bdac", func := "floodgate/floodgatelaw34.LimitLasts", spec := "limitLasts", inPlace := ["maps.clone"], unfollowed := true, recurses := true, plainKeys := false, apart := false, narrowed := true }
def LimitLastsUptoSaid : Prop := limitLastsUptoRow.holds Tryz.pinned (OpenSpec.upto limitLastsSpec)

/-- 'floodgatelaw32.ServeGuarantee', WHERE WHAT IT READS IS OF BULK AT MOST 1048576: true; the input reads as it did. -/
def serveGuaranteeUptoRow : OpenClaim := { program := "ytkfemlhbbcojnaagreat", sum := "2ef70744ad6d7a0bbe44a514ce6080218f5b93ac52e4ac1ae37d9031b413bdac", func := "floodgate/floodgatelaw32.ServeGuarantee", spec := "serveGuarantee", inPlace := ["maps.clone"], unfollowed := true, recurses := true, plainKeys := false, apart := false, narrowed := true }
def ServeGuaranteeUptoSaid : Prop := serveGuaranteeUptoRow.holds Tryz.pinned (OpenSpec.upto serveGuaranteeSpec)

/-- 'floodgatelaw38.PlanLatest', WHERE WHAT IT READS IS OF BULK AT MOST 1048576: true; the input reads as it did. -/
def planLatestUptoRow : OpenClaim := { program := "ytkfemlhbbcojnaagreat", sum := "2ef70744ad6d7a0bbe44a514ce6080218f5b93ac52e4ac1ae37d9031b413bdac", func := "floodgate/floodgatelaw38.PlanLatest", spec := "planLatest", inPlace := ["maps.clone"], unfollowed := true, recurses := true, plainKeys := false, apart := false, narrowed := true }
def PlanLatestUptoSaid : Prop := planLatestUptoRow.holds Tryz.pinned (OpenSpec.upto planLatestSpec)

/-- 'floodgatelaw33.FairShares', WHERE WHAT IT READS IS OF BULK AT MOST 1048576: true; the input reads as it did. -/
def fairSharesUptoRow : OpenClaim := { program := "ytkfemlhbbcojnaagreat", sum := "2ef70744ad6d7a0bbe44a514ce6080218f5b93ac52e4ac1ae37d9031b413bdac", func := "floodgate/floodgatelaw33.FairShares", spec := "fairShares", inPlace := ["maps.clone"], unfollowed := true, recurses := true, plainKeys := false, apart := false, narrowed := true }
def FairSharesUptoSaid : Prop := fairSharesUptoRow.holds Tryz.pinned (OpenSpec.upto fairSharesSpec)

/-- 'floodgatelaw49.BehindNone', WHERE WHAT IT READS IS OF BULK AT MOST 1048576: true; the input reads as it did. -/
def behindNoneUptoRow : OpenClaim := { program := "ytkfemlhbbcojnaagreat", sum := "2ef70744ad6d7a0bbe44a514ce6080218f5b93ac52e4ac1ae37d9031b413bdac", func := "floodgate/floodgatelaw49.BehindNone", spec := "behindNone", inPlace := ["maps.clone"], unfollowed := true, recurses := true, plainKeys := false, apart := false, narrowed := true }
def BehindNoneUptoSaid : Prop := behindNoneUptoRow.holds Tryz.pinned (OpenSpec.upto behindNoneSpec)

/-- 'floodgatelaw48.ConformDelay', WHERE WHAT IT READS IS OF BULK AT MOST 1048576: true; the input reads as it did. -/
def conformDelayUptoRow : OpenClaim := { program := "ytkfemlhbbcojnaagreat", sum := "2ef70744ad6d7a0bbe44a514ce6080218f5b93ac52e4ac1ae37d9031b413bdac", func := "floodgate/floodgatelaw48.ConformDelay", spec := "conformDelay", inPlace := ["maps.clone"], unfollowed := true, recurses := true, plainKeys := false, apart := false, narrowed := true }
def ConformDelayUptoSaid : Prop := conformDelayUptoRow.holds Tryz.pinned (OpenSpec.upto conformDelaySpec)

/-- 'floodgatelaw49.BehindShare', WHERE WHAT IT READS IS OF BULK AT MOST 1048576: true; the input reads as it did. -/
def behindShareUptoRow : OpenClaim := { program := "ytkfemlhbbcojnaagreat", sum := "2ef70744ad6d7a0bbe44a514ce6080218f5b93ac52e4ac1ae37d9031b413bdac", func := "floodgate/floodgatelaw49.BehindShare", spec := "behindShare", inPlace := ["maps.clone"], unfollowed := true, recurses := true, plainKeys := false, apart := false, narrowed := true }
def BehindShareUptoSaid : Prop := behindShareUptoRow.holds Tryz.pinned (OpenSpec.upto behindShareSpec)

end Rows
end Go.Proofs.YtkfemlhbbcojnaaGreat
