/- The statement ScriptForth is proved. No conditions. -/
import Derived.Test.YtiiaocpkjmiacaaYP5
import Derived.Test.YtiiaocpkjmiacaaRows
namespace Go.Fg.X
set_option linter.unusedSimpArgs false
open Go.Proofs Go.Fg Go.Proofs.Ytiiaocpkjmiacaa
open Go.ChangeShapes Go.WideShapes Go.ChangeAt Go.RowKit
set_option maxRecDepth 100000
set_option linter.unusedVariables false
theorem ownScriptForth : ownKnob Try.prog.godebug = none := by kernel_rfl
theorem laidOutScriptForth : laidOutB Try.prog = true := by kernel_rfl
theorem liftedScriptForth (os : Os) (started : os.Started) (H : Type) (enc : TypeId × Value → H) :
    ReturnsInHanded {} Try.checked os 9 .any (Rows.scriptForthSpec.pre6 enc Try.prog Try.f9 Rows.scriptForthRow.domain false) (Rows.scriptForthSpec.post enc Try.prog Try.f9 false true false false) := by
  refine returnsInHanded_of_change (C := Try.checked) ownScriptForth started (by kernel_rfl) Try.func9
    (ChangeSpec.witness6 (enc := enc) (C := Try.checked) false ⟨#[], #[.string ByteArray.empty], []⟩ 12 (by kernel_rfl) (by kernel_rfl) (by kernel_rfl) (by kernel_rfl)) ?_
  intro W base args ds gs before hval0 hW hcnd _
  have hval : ∀ (j : Nat) t v, Try.f9.params[j]? = some t → args[j]? = some v → Value.okWide Try.prog W .any base t v := hval0
  have hW' := hW
  obtain ⟨p, q, hA0, hV, rfl, hfz, hnd⟩ := hW
  have hA : DataW.TrodAll enc Try.prog W 0 (fun _ => true) true Try.f9.params.toList args.toList ds p := hA0
  rw [Try.params9] at hA hval
  obtain ⟨v0, vs0, d0, ds0, p0, q0, hargs, rfl, rfl, h0, r0⟩ := trodAll_cons hA
  obtain ⟨rfl, rfl, rfl⟩ := trodAll_nil r0
  obtain rfl : args = #[v0] := by cases args; simp_all
  obtain ⟨rfl, rfl⟩ := trodVars_none hV
  obtain ⟨n0, rfl⟩ := okWide_string Try.underlying9 (hval 0 9 v0 rfl rfl)
  have t0 := h0
  have lt0 : ∀ x ∈ p0, x.block < W.heap.size := by obtain ⟨m, hm⟩ := t0; exact DataW.trod_lt m _ _ _ hm
  obtain ⟨x0, k0, c0⟩ := Rd.one (Rd.str Try.underlying9) h0 (one_cell_string _)
  clear hA0 hval0
  have walk : Calls Try.prog 9 #[.string n0] W fun e W' => e = .returned (.bool true) ∧ Below W.heap.size W W' := call_true ((show AFn Try.prog 9 [.raw (.string x0)] (Ret (dbool true)) from by have h := scriptForth_ok (listS_bytes x0); rw [dstr, bytesS_listS] at h; exact h)) W [_] rfl (fun i hi => match i, hi with
    | 0, _ => c0)
  refine walk.mono fun e W' ⟨he, bel⟩ => ?_
  subst he
  exact ⟨_, rfl, _, _, _, [], _, [], hW', trodAll_mk1 (shut_bool Try.underlying4 _), (trodAll_cons_mk (Below.trod laidOutScriptForth (by kernel_rfl) (of_decide_eq_true (by kernel_rfl)) t0 bel lt0) trodAll_mk0), rfl, bel.frame _, fun h => by cases h⟩
theorem provedScriptForth : Rows.ScriptForthSaid :=
  OpenClaim.holds_of_wide 9 Try.f9 rfl rfl rfl rfl rfl rfl rfl ⟨rfl, rfl, rfl, rfl, rfl⟩ rfl rfl rfl rfl rfl (by kernel_rfl) Try.func9 (by kernel_rfl)
    (of_decide_eq_true (by kernel_rfl)) (by unfold Func.isWrapper; first | (rw [if_pos (by decide +kernel)]; kernel_rfl) | (rw [if_neg (by decide +kernel)]; exact ⟨rfl, rfl⟩))
    (fun os started H enc _ => liftedScriptForth os started H enc)
end Go.Fg.X
namespace Go.Proofs.Ytiiaocpkjmiacaa
theorem scriptForth_done : Rows.ScriptForthSaid := Go.Fg.X.provedScriptForth
end Go.Proofs.Ytiiaocpkjmiacaa
