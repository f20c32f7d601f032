/- The statement PlanRoom is proved. No conditions. -/
import Derived.Test.YtbijdpnacnnaoaaGreatPR9
import Derived.Test.YtbijdpnacnnaoaaGreatRows
namespace Go.Fg.X
set_option linter.unusedSimpArgs false
open Go.Proofs Go.Fg Go.Proofs.YtbijdpnacnnaoaaGreat
open Go.ChangeShapes Go.WideShapes Go.ChangeAt Go.RowKit
set_option maxRecDepth 100000
set_option linter.unusedVariables false
theorem ownPlanRoom : ownKnob Tryz.prog.godebug = none := by kernel_rfl
theorem laidOutPlanRoom : laidOutB Tryz.prog = true := by kernel_rfl
theorem liftedPlanRoom (os : Os) (started : os.Started) (H : Type) (enc : TypeId × Value → H) :
    ReturnsInHanded {} Tryz.checked os 3 .any (Rows.planRoomSpec.pre6 enc Tryz.prog Tryz.f3 Rows.planRoomRow.domain false) (Rows.planRoomSpec.post enc Tryz.prog Tryz.f3 false true false false) := by
  refine returnsInHanded_of_change (C := Tryz.checked) ownPlanRoom started (by kernel_rfl) Tryz.func3
    (ChangeSpec.witness6 (enc := enc) (C := Tryz.checked) false ⟨#[], #[.slice none 0 0, .int .i64 0, .agg #[.int .u64 0, .int .u64 0, .int .u64 0]], []⟩ 12 (by kernel_rfl) (by kernel_rfl) (by kernel_rfl) (by kernel_rfl)) ?_
  intro W base args ds gs before hval0 hW hcnd _
  have hval : ∀ (j : Nat) t v, Tryz.f3.params[j]? = some t → args[j]? = some v → Value.okWide Tryz.prog W .any base t v := hval0
  have hW' := hW
  obtain ⟨p, q, hA0, hV, rfl, hfz, hnd⟩ := hW
  have hA : DataW.TrodAll enc Tryz.prog W 0 (fun _ => true) true Tryz.f3.params.toList args.toList ds p := hA0
  rw [Tryz.params3] at hA hval
  obtain ⟨v0, vs0, d0, ds0, p0, q0, hargs, rfl, rfl, h0, r0⟩ := trodAll_cons hA
  obtain ⟨v1, vs1, d1, ds1, p1, q1, rfl, rfl, rfl, h1, r1⟩ := trodAll_cons r0
  obtain ⟨v2, vs2, d2, ds2, p2, q2, rfl, rfl, rfl, h2, r2⟩ := trodAll_cons r1
  obtain ⟨rfl, rfl, rfl⟩ := trodAll_nil r2
  obtain rfl : args = #[v0, v1, v2] := by cases args; simp_all
  obtain ⟨rfl, rfl⟩ := trodVars_none hV
  obtain ⟨a0, len0, cap0, rfl⟩ := okWide_slice Tryz.underlying22 (hval 0 22 v0 rfl rfl)
  obtain ⟨n1, rfl⟩ := okWide_int Tryz.underlying3 (hval 1 3 v1 rfl rfl)
  obtain ⟨cs2, rfl, _⟩ := okWide_struct Tryz.underlying25 (hval 2 25 v2 rfl rfl)
  have t0 := h0
  have lt0 : ∀ x ∈ p0, x.block < W.heap.size := by obtain ⟨m, hm⟩ := t0; exact DataW.trod_lt m _ _ _ hm
  have t1 := h1
  have lt1 : ∀ x ∈ p1, x.block < W.heap.size := by obtain ⟨m, hm⟩ := t1; exact DataW.trod_lt m _ _ _ hm
  have t2 := h2
  have lt2 : ∀ x ∈ p2, x.block < W.heap.size := by obtain ⟨m, hm⟩ := t2; exact DataW.trod_lt m _ _ _ hm
  obtain ⟨x0, k0, c0⟩ := Rd.one (Rd.slice 15 Tryz.underlying22 (by kernel_rfl) (by decide) rdChg) h0 (one_cell_slice _ _ _)
  obtain ⟨x1, k1, c1⟩ := Rd.one (Rd.int .i64 Tryz.underlying3) h1 (one_cell_int _ _)
  obtain ⟨x2, k2, c2⟩ := Rd.many rdCv h2
  clear hA0 hval0
  have walk : Calls Tryz.prog 3 #[.slice a0 len0 cap0, .int .i64 n1, .agg cs2] W fun e W' => e = .returned (.bool true) ∧ Below W.heap.size W W' := call_true (planRoomC_ok x0 x1 x2 k2 k0.2) W [_, _, _] rfl (fun i hi => match i, hi with
    | 0, _ => c0
    | 1, _ => c1
    | 2, _ => c2)
  refine walk.mono fun e W' ⟨he, bel⟩ => ?_
  subst he
  exact ⟨_, rfl, _, _, _, [], _, [], hW', trodAll_mk1 (shut_bool Tryz.underlying4 _), (trodAll_cons_mk (Below.trod laidOutPlanRoom (by kernel_rfl) (of_decide_eq_true (by kernel_rfl)) t0 bel lt0) (trodAll_cons_mk (Below.trod laidOutPlanRoom (by kernel_rfl) (of_decide_eq_true (by kernel_rfl)) t1 bel lt1) (trodAll_cons_mk (Below.trod laidOutPlanRoom (by kernel_rfl) (of_decide_eq_true (by kernel_rfl)) t2 bel lt2) trodAll_mk0))), rfl, bel.frame _, fun h => by cases h⟩
theorem closedPlanRoom : joinedFacts Tryz.prog 3 Tryz.f3 Rows.planRoomSpec Rows.planRoomRow = true := by kernel_rfl
theorem namedIsPlanRoom : Tryz.prog.funcNamed Rows.planRoomRow.func = some 3 := by kernel_rfl
theorem provedPlanRoom : Rows.PlanRoomSaid :=
  OpenClaim.holds_of_wide 3 Tryz.f3 rfl rfl rfl rfl rfl rfl rfl ⟨rfl, rfl, rfl, rfl, rfl⟩ rfl rfl rfl rfl rfl namedIsPlanRoom Tryz.func3 closedPlanRoom
    (of_decide_eq_true (by kernel_rfl)) (by unfold Func.isWrapper; first | (rw [if_pos (by decide +kernel)]; kernel_rfl) | (rw [if_neg (by decide +kernel)]; exact ⟨rfl, rfl⟩))
    (fun os started H enc _ => liftedPlanRoom os started H enc)
end Go.Fg.X
namespace Go.Proofs.YtbijdpnacnnaoaaGreat
theorem planRoom_done : Rows.PlanRoomSaid := Go.Fg.X.provedPlanRoom
end Go.Proofs.YtbijdpnacnnaoaaGreat
