/- The statement ScriptEncodesUpto is proved. No conditions. -/
import Derived.Test.YtiiaocpkjmiacaaXBk
import Derived.JoinedCond
import Derived.Test.YtiiaocpkjmiacaaRows
namespace Go.Fg.X
set_option linter.unusedSimpArgs false
open Go.Proofs Go.Fg Go.Proofs.Ytiiaocpkjmiacaa
open Go.ChangeShapes Go.WideShapes Go.ChangeAt Go.RowKit
set_option maxRecDepth 100000
set_option linter.unusedVariables false
theorem ownScriptEncodes : ownKnob Try.prog.godebug = none := by kernel_rfl
theorem laidOutScriptEncodes : laidOutB Try.prog = true := by kernel_rfl
def bulkOf : Bulk where
  f := Rows.uptoBulk
  fs := Rows.uptoBulkAll
  nil := rfl
  cons := fun _ _ => rfl
  agg := fun _ => rfl
  slice := fun _ _ => rfl
  pos := fun d => by cases d <;> (try rename_i l; cases l) <;> simp [Rows.uptoBulk]
  nilV := rfl
theorem liftedScriptEncodes (os : Os) (started : os.Started) (H : Type) (enc : TypeId × Value → H) (F : Stop.Interp) :
    ReturnsInHanded {} Try.checked os 7 .any ((Rows.OpenSpec.upto Rows.scriptEncodesSpec).pre6 enc Try.prog Try.f7 Rows.scriptEncodesUptoRow.domain false) (((Rows.OpenSpec.upto Rows.scriptEncodesSpec).at F).post enc Try.prog Try.f7 false true false false) := by
  refine returnsInHanded_of_cond (C := Try.checked) (s := Rows.OpenSpec.upto Rows.scriptEncodesSpec) (k := Rows.uptoSmall) rfl ownScriptEncodes started (by kernel_rfl) Try.func7
    (OpenSpec.witness (enc := enc) (C := Try.checked) (s := Rows.OpenSpec.upto Rows.scriptEncodesSpec) (k := Rows.uptoSmall) rfl false ⟨#[], #[.agg #[.int .i64 0, .int .i64 0, .slice none 0 0]], []⟩ 12 (by kernel_rfl) (by kernel_rfl) (by kernel_rfl)
      (x := ([.agg [.agg [.lit (.int .i64 0), .lit (.int .i64 0)], .nil]], [], [])) (by kernel_rfl) (by kernel_rfl) (by kernel_rfl)) ?_
  intro W base args ds gs before hval0 hW hcnd hbulk _
  have hval : ∀ (j : Nat) t v, Try.f7.params[j]? = some t → args[j]? = some v → Value.okWide Try.prog W .any base t v := hval0
  have hW' := hW
  obtain ⟨p, q, hA0, hV, rfl, hfz, hnd⟩ := hW
  have hA : DataW.TrodAll enc Try.prog W 0 (fun _ => true) true Try.f7.params.toList args.toList ds p := hA0
  rw [Try.params7] at hA hval
  obtain ⟨v0, vs0, d0, ds0, p0, q0, hargs, rfl, rfl, h0, r0⟩ := trodAll_cons hA
  obtain ⟨rfl, rfl, rfl⟩ := trodAll_nil r0
  obtain rfl : args = #[v0] := by cases args; simp_all
  obtain ⟨rfl, rfl⟩ := trodVars_none hV
  obtain ⟨cs0, rfl, _⟩ := okWide_struct Try.underlying49 (hval 0 49 v0 rfl rfl)
  have t0 := h0
  have lt0 : ∀ x ∈ p0, x.block < W.heap.size := by obtain ⟨m, hm⟩ := t0; exact DataW.trod_lt m _ _ _ hm
  obtain ⟨x0, k0, z0, c0⟩ := RdB.many (rdScrB bulkOf) h0
  have hsm : scrMz x0.ops ≤ 1048576 := by
    have h1 : Rows.uptoBulkAll ([d0] ++ []) ≤ 1048576 := of_decide_eq_true hbulk
    have h2 : Rows.uptoBulkAll ([d0] ++ []) = bulkOf.f d0 + 0 := rfl
    rw [h2] at h1
    have h3 : scrMz x0.ops = (x0.ops.map fun o => 1 + o.changes.length + o.rules.length).sum := rfl
    omega
  clear hA0 hval0
  have walk : Calls Try.prog 7 #[.agg cs0] W fun e W' => e = .returned (.bool true) ∧ Below W.heap.size W W' := call_true (scriptEncodes_ok k0 hsm) W [_] rfl (fun i hi => match i, hi with
    | 0, _ => c0)
  refine walk.mono fun e W' ⟨he, bel⟩ => ?_
  subst he
  exact ⟨_, rfl, _, _, _, [], _, [], hW', trodAll_mk1 (shut_bool Try.underlying4 _), (trodAll_cons_mk (Below.trod laidOutScriptEncodes (by kernel_rfl) (of_decide_eq_true (by kernel_rfl)) t0 bel lt0) trodAll_mk0), rfl, bel.frame _, fun h => by cases h⟩
theorem provedScriptEncodesUpto : Rows.ScriptEncodesUptoSaid :=
  OpenClaim.holds_of_cond 7 Try.f7 rfl rfl rfl rfl rfl rfl rfl ⟨rfl, rfl, rfl, rfl, rfl⟩ rfl rfl rfl rfl rfl (by kernel_rfl) Try.func7 (by kernel_rfl)
    (of_decide_eq_true (by kernel_rfl)) (by unfold Func.isWrapper; first | (rw [if_pos (by decide +kernel)]; kernel_rfl) | (rw [if_neg (by decide +kernel)]; exact ⟨rfl, rfl⟩))
    (fun os started H enc _ F => liftedScriptEncodes os started H enc F)
end Go.Fg.X
namespace Go.Proofs.Ytiiaocpkjmiacaa
theorem scriptEncodesUpto_done : Rows.ScriptEncodesUptoSaid := Go.Fg.X.provedScriptEncodesUpto
end Go.Proofs.Ytiiaocpkjmiacaa
