/- The statement ReplayDiffers is proved. No conditions. -/
import Derived.Test.YteijnoopdjoogaaGreatRC4
import Derived.Test.YteijnoopdjoogaaGreatRows
namespace Go.Fg.X
set_option linter.unusedSimpArgs false
open Go.Proofs Go.Fg Go.Proofs.YteijnoopdjoogaaGreat
open Go.ChangeShapes Go.WideShapes Go.ChangeAt Go.RowKit
set_option maxRecDepth 100000
set_option linter.unusedVariables false
theorem ownReplayDiffers : ownKnob Tryz.prog.godebug = none := by kernel_rfl
theorem laidOutReplayDiffers : laidOutB Tryz.prog = true := by kernel_rfl
theorem liftedReplayDiffers (os : Os) (started : os.Started) (H : Type) (enc : TypeId × Value → H) :
    ReturnsInHanded {} Tryz.checked os 8 .any (Rows.replayDiffersSpec.pre6 enc Tryz.prog Tryz.f8 Rows.replayDiffersRow.domain false) (Rows.replayDiffersSpec.post enc Tryz.prog Tryz.f8 false true false false) := by
  refine returnsInHanded_of_change (C := Tryz.checked) ownReplayDiffers started (by kernel_rfl) Tryz.func8
    (ChangeSpec.witness6 (enc := enc) (C := Tryz.checked) false ⟨#[], #[.agg #[.slice none 0 0, .slice none 0 0], .agg #[.slice none 0 0, .slice none 0 0]], []⟩ 12 (by kernel_rfl) (by kernel_rfl) (by kernel_rfl) (by kernel_rfl)) ?_
  intro W base args ds gs before hval0 hW hcnd _
  have hval : ∀ (j : Nat) t v, Tryz.f8.params[j]? = some t → args[j]? = some v → Value.okWide Tryz.prog W .any base t v := hval0
  have hW' := hW
  obtain ⟨p, q, hA0, hV, rfl, hfz, hnd⟩ := hW
  have hA : DataW.TrodAll enc Tryz.prog W 0 (fun _ => true) true Tryz.f8.params.toList args.toList ds p := hA0
  rw [Tryz.params8] at hA hval
  obtain ⟨v0, vs0, d0, ds0, p0, q0, hargs, rfl, rfl, h0, r0⟩ := trodAll_cons hA
  obtain ⟨v1, vs1, d1, ds1, p1, q1, rfl, rfl, rfl, h1, r1⟩ := trodAll_cons r0
  obtain ⟨rfl, rfl, rfl⟩ := trodAll_nil r1
  obtain rfl : args = #[v0, v1] := by cases args; simp_all
  obtain ⟨rfl, rfl⟩ := trodVars_none hV
  obtain ⟨cs0, rfl, _⟩ := okWide_struct Tryz.underlying90 (hval 0 90 v0 rfl rfl)
  obtain ⟨cs1, rfl, _⟩ := okWide_struct Tryz.underlying90 (hval 1 90 v1 rfl rfl)
  have t0 := h0
  have lt0 : ∀ x ∈ p0, x.block < W.heap.size := by obtain ⟨m, hm⟩ := t0; exact DataW.trod_lt m _ _ _ hm
  have t1 := h1
  have lt1 : ∀ x ∈ p1, x.block < W.heap.size := by obtain ⟨m, hm⟩ := t1; exact DataW.trod_lt m _ _ _ hm
  obtain ⟨x0, k0, c0⟩ := Rd.many rdOutc h0
  obtain ⟨x1, k1, c1⟩ := Rd.many rdOutc h1
  clear hA0 hval0
  have walk : Calls Tryz.prog 8 #[.agg cs0, .agg cs1] W fun e W' => e = .returned (.bool true) ∧ Below W.heap.size W W' := call_true (replayDiffers_ok x0 x1) W [_, _] rfl (fun i hi => match i, hi with
    | 0, _ => c0
    | 1, _ => c1)
  refine walk.mono fun e W' ⟨he, bel⟩ => ?_
  subst he
  exact ⟨_, rfl, _, _, _, [], _, [], hW', trodAll_mk1 (shut_bool Tryz.underlying4 _), (trodAll_cons_mk (Below.trod laidOutReplayDiffers (by kernel_rfl) (of_decide_eq_true (by kernel_rfl)) t0 bel lt0) (trodAll_cons_mk (Below.trod laidOutReplayDiffers (by kernel_rfl) (of_decide_eq_true (by kernel_rfl)) t1 bel lt1) trodAll_mk0)), rfl, bel.frame _, fun h => by cases h⟩
theorem closedReplayDiffers : joinedFacts Tryz.prog 8 Tryz.f8 Rows.replayDiffersSpec Rows.replayDiffersRow = true := by kernel_rfl
theorem namedIsReplayDiffers : Tryz.prog.funcNamed Rows.replayDiffersRow.func = some 8 := by kernel_rfl
theorem provedReplayDiffers : Rows.ReplayDiffersSaid :=
  OpenClaim.holds_of_wide 8 Tryz.f8 rfl rfl rfl rfl rfl rfl rfl ⟨rfl, rfl, rfl, rfl, rfl⟩ rfl rfl rfl rfl rfl namedIsReplayDiffers Tryz.func8 closedReplayDiffers
    (of_decide_eq_true (by kernel_rfl)) (by unfold Func.isWrapper; first | (rw [if_pos (by decide +kernel)]; kernel_rfl) | (rw [if_neg (by decide +kernel)]; exact ⟨rfl, rfl⟩))
    (fun os started H enc _ => liftedReplayDiffers os started H enc)
end Go.Fg.X
namespace Go.Proofs.YteijnoopdjoogaaGreat
theorem replayDiffers_done : Rows.ReplayDiffersSaid := Go.Fg.X.provedReplayDiffers
end Go.Proofs.YteijnoopdjoogaaGreat
