/- Walks of the functions that the statement reaches. No conditions: contracts and laws. -/
import Derived.Test.YtiijehklpambbaaXU1
namespace Go.Fg.X
open Go.Proofs Go.Fg
set_option maxRecDepth 100000
set_option maxHeartbeats 4000000
set_option linter.unusedSimpArgs false
set_option linter.unusedVariables false
def knAt (l : List Ev) : Nat → Kn
  | 0 => ⟨0, 0, 0⟩
  | k + 1 => (knAt l k).next (l.getD k default)
theorem knAt_work (l : List Ev) : ∀ k, (knAt l k).work ≤ k
  | 0 => Nat.le_refl _
  | k + 1 => by have := knAt_work l k; simp only [knAt, Kn.next]; split <;> simp only <;> omega
theorem all_ok (l : List Ev) (hl : l.length < 2147483648) : AFn Try.prog 80 [evs l] (Ret (.agg (knAt l l.length).cells)) := by
  refine AFn_hxk 0 cx_ok 200 Try.func80 rfl Try.ntmps80 Try.results80 rfl fun base w hb => ?_
  simp only [go_sem, Nat.reduceAdd, Nat.reduceSub, Nat.reduceMul, Nat.reduceBEq, Nat.reduceLT, Nat.reduceLeDiff, Nat.reduceEqDiff, Int.reduceToNat, Int.reduceLE, Int.reduceLT, Int.reduceAdd, Int.reduceSub, Int.reduceNeg, Int.reduceBEq, Int.reduceBNe, Nat.reduceBNe, Nat.reduceDiv, Nat.reduceMod]
  refine kont_forF (G := Nat) [2, 3, 6, 7] (fun k => True) (fun k γ => [(8, dint k)]) (fun k γ => [⟨.one, 0, 3, 1, fun _ => [.raw (.int .u64 0), .raw (.int .u64 0), .raw (.int .i64 0)]⟩, knOb (knAt l k)]) (l.length) (0) rfl (Weak.to 2 (by (simp only [go_sem, Nat.reduceAdd, Nat.reduceSub, Nat.reduceMul, Nat.reduceBEq, Nat.reduceLT, Nat.reduceLeDiff, Nat.reduceEqDiff, Int.reduceToNat, Int.reduceLE, Int.reduceLT, Int.reduceAdd, Int.reduceSub, Int.reduceNeg, Int.reduceBEq, Int.reduceBNe, Nat.reduceBNe, Nat.reduceDiv, Nat.reduceMod, knAt]) <;> simp)) trivial ?_
  intro k γ hk _
  refine kont_of_hx cx_ok hb 200 ?_
  simp only [go_sem, Nat.reduceAdd, Nat.reduceSub, Nat.reduceMul, Nat.reduceBEq, Nat.reduceLT, Nat.reduceLeDiff, Nat.reduceEqDiff, Int.reduceToNat, Int.reduceLE, Int.reduceLT, Int.reduceAdd, Int.reduceSub, Int.reduceNeg, Int.reduceBEq, Int.reduceBNe, Nat.reduceBNe, Nat.reduceDiv, Nat.reduceMod]
  have hwr := wrap_succ (show k < 4611686018427387904 by omega)
  have hw := knAt_work l k
  first | refine hite_lt hk (fun hk1 => ?_) (fun hk1 => ?_) | refine hite_ltI hk (fun hk1 => ?_) (fun hk1 => ?_)
  · simp only [go_sem, Nat.reduceAdd, Nat.reduceSub, Nat.reduceMul, Nat.reduceBEq, Nat.reduceLT, Nat.reduceLeDiff, Nat.reduceEqDiff, Int.reduceToNat, Int.reduceLE, Int.reduceLT, Int.reduceAdd, Int.reduceSub, Int.reduceNeg, Int.reduceBEq, Int.reduceBNe, Nat.reduceBNe, Nat.reduceDiv, Nat.reduceMod, hk1]
    refine kont_callM hb [1] fn82 rfl ?_ (learn_ok (knAt l k) (l.getD k default) (by omega)) rfl fun d h hR => ?_
    · simp only [go_sem, Nat.reduceAdd, Nat.reduceSub, Nat.reduceMul, Nat.reduceBEq, Nat.reduceLT, Nat.reduceLeDiff, Nat.reduceEqDiff, Int.reduceToNat, Int.reduceLE, Int.reduceLT, Int.reduceAdd, Int.reduceSub, Int.reduceNeg, Int.reduceBEq, Int.reduceBNe, Nat.reduceBNe, Nat.reduceDiv, Nat.reduceMod]
    obtain ⟨rfl, rfl⟩ := hR
    simp only [go_sem, Nat.reduceAdd, Nat.reduceSub, Nat.reduceMul, Nat.reduceBEq, Nat.reduceLT, Nat.reduceLeDiff, Nat.reduceEqDiff, Int.reduceToNat, Int.reduceLE, Int.reduceLT, Int.reduceAdd, Int.reduceSub, Int.reduceNeg, Int.reduceBEq, Int.reduceBNe, Nat.reduceBNe, Nat.reduceDiv, Nat.reduceMod]
    refine kont_of_hx cx_ok hb 200 ?_
    simp only [go_sem, Nat.reduceAdd, Nat.reduceSub, Nat.reduceMul, Nat.reduceBEq, Nat.reduceLT, Nat.reduceLeDiff, Nat.reduceEqDiff, Int.reduceToNat, Int.reduceLE, Int.reduceLT, Int.reduceAdd, Int.reduceSub, Int.reduceNeg, Int.reduceBEq, Int.reduceBNe, Nat.reduceBNe, Nat.reduceDiv, Nat.reduceMod]
    have e5 : knAt l (k + 1) = (knAt l k).next (l.getD k default) := rfl
    repeat (refine And.intro (by first | assumption | omega) ?_)
    refine ⟨_, Weak.to 2 (by (simp only [go_sem, Nat.reduceAdd, Nat.reduceSub, Nat.reduceMul, Nat.reduceBEq, Nat.reduceLT, Nat.reduceLeDiff, Nat.reduceEqDiff, Int.reduceToNat, Int.reduceLE, Int.reduceLT, Int.reduceAdd, Int.reduceSub, Int.reduceNeg, Int.reduceBEq, Int.reduceBNe, Nat.reduceBNe, Nat.reduceDiv, Nat.reduceMod, hwr, e5]) <;> simp), ForS.mk (γ) (trivial)⟩
  · simp only [go_sem, Nat.reduceAdd, Nat.reduceSub, Nat.reduceMul, Nat.reduceBEq, Nat.reduceLT, Nat.reduceLeDiff, Nat.reduceEqDiff, Int.reduceToNat, Int.reduceLE, Int.reduceLT, Int.reduceAdd, Int.reduceSub, Int.reduceNeg, Int.reduceBEq, Int.reduceBNe, Nat.reduceBNe, Nat.reduceDiv, Nat.reduceMod]
    refine kont_of_hx cx_ok hb 200 ?_
    simp only [go_sem, Nat.reduceAdd, Nat.reduceSub, Nat.reduceMul, Nat.reduceBEq, Nat.reduceLT, Nat.reduceLeDiff, Nat.reduceEqDiff, Int.reduceToNat, Int.reduceLE, Int.reduceLT, Int.reduceAdd, Int.reduceSub, Int.reduceNeg, Int.reduceBEq, Int.reduceBNe, Nat.reduceBNe, Nat.reduceDiv, Nat.reduceMod]
    subst hk1
    rfl
theorem work_ok (l : List Ev) (hl : l.length < 2147483648) : AFn Try.prog 35 [evs l] (Ret (dint (knAt l l.length).work)) := by
  refine AFn_hxk 0 cx_ok 200 Try.func35 rfl Try.ntmps35 Try.results35 rfl fun base w hb => ?_
  simp only [go_sem, Nat.reduceAdd, Nat.reduceSub, Nat.reduceMul, Nat.reduceBEq, Nat.reduceLT, Nat.reduceLeDiff, Nat.reduceEqDiff, Int.reduceToNat, Int.reduceLE, Int.reduceLT, Int.reduceAdd, Int.reduceSub, Int.reduceNeg, Int.reduceBEq, Int.reduceBNe, Nat.reduceBNe, Nat.reduceDiv, Nat.reduceMod]
  refine kont_callM hb [] fn80 rfl ?_ (all_ok l hl) rfl fun d h hR => ?_
  · simp only [go_sem, Nat.reduceAdd, Nat.reduceSub, Nat.reduceMul, Nat.reduceBEq, Nat.reduceLT, Nat.reduceLeDiff, Nat.reduceEqDiff, Int.reduceToNat, Int.reduceLE, Int.reduceLT, Int.reduceAdd, Int.reduceSub, Int.reduceNeg, Int.reduceBEq, Int.reduceBNe, Nat.reduceBNe, Nat.reduceDiv, Nat.reduceMod]
  obtain ⟨rfl, rfl⟩ := hR
  simp only [go_sem, Nat.reduceAdd, Nat.reduceSub, Nat.reduceMul, Nat.reduceBEq, Nat.reduceLT, Nat.reduceLeDiff, Nat.reduceEqDiff, Int.reduceToNat, Int.reduceLE, Int.reduceLT, Int.reduceAdd, Int.reduceSub, Int.reduceNeg, Int.reduceBEq, Int.reduceBNe, Nat.reduceBNe, Nat.reduceDiv, Nat.reduceMod]
  refine kont_of_hx cx_ok hb 200 ?_
  simp only [go_sem, Nat.reduceAdd, Nat.reduceSub, Nat.reduceMul, Nat.reduceBEq, Nat.reduceLT, Nat.reduceLeDiff, Nat.reduceEqDiff, Int.reduceToNat, Int.reduceLE, Int.reduceLT, Int.reduceAdd, Int.reduceSub, Int.reduceNeg, Int.reduceBEq, Int.reduceBNe, Nat.reduceBNe, Nat.reduceDiv, Nat.reduceMod]
theorem until_ok (l : List Ev) (hl : l.length < 2147483648) : AFn Try.prog 37 [evs l] (Ret (.raw (.int .u64 (knAt l l.length).til))) := by
  refine AFn_hxk 0 cx_ok 200 Try.func37 rfl Try.ntmps37 Try.results37 rfl fun base w hb => ?_
  simp only [go_sem, Nat.reduceAdd, Nat.reduceSub, Nat.reduceMul, Nat.reduceBEq, Nat.reduceLT, Nat.reduceLeDiff, Nat.reduceEqDiff, Int.reduceToNat, Int.reduceLE, Int.reduceLT, Int.reduceAdd, Int.reduceSub, Int.reduceNeg, Int.reduceBEq, Int.reduceBNe, Nat.reduceBNe, Nat.reduceDiv, Nat.reduceMod]
  refine kont_callM hb [] fn80 rfl ?_ (all_ok l hl) rfl fun d h hR => ?_
  · simp only [go_sem, Nat.reduceAdd, Nat.reduceSub, Nat.reduceMul, Nat.reduceBEq, Nat.reduceLT, Nat.reduceLeDiff, Nat.reduceEqDiff, Int.reduceToNat, Int.reduceLE, Int.reduceLT, Int.reduceAdd, Int.reduceSub, Int.reduceNeg, Int.reduceBEq, Int.reduceBNe, Nat.reduceBNe, Nat.reduceDiv, Nat.reduceMod]
  obtain ⟨rfl, rfl⟩ := hR
  simp only [go_sem, Nat.reduceAdd, Nat.reduceSub, Nat.reduceMul, Nat.reduceBEq, Nat.reduceLT, Nat.reduceLeDiff, Nat.reduceEqDiff, Int.reduceToNat, Int.reduceLE, Int.reduceLT, Int.reduceAdd, Int.reduceSub, Int.reduceNeg, Int.reduceBEq, Int.reduceBNe, Nat.reduceBNe, Nat.reduceDiv, Nat.reduceMod]
  refine kont_of_hx cx_ok hb 200 ?_
  simp only [go_sem, Nat.reduceAdd, Nat.reduceSub, Nat.reduceMul, Nat.reduceBEq, Nat.reduceLT, Nat.reduceLeDiff, Nat.reduceEqDiff, Int.reduceToNat, Int.reduceLE, Int.reduceLT, Int.reduceAdd, Int.reduceSub, Int.reduceNeg, Int.reduceBEq, Int.reduceBNe, Nat.reduceBNe, Nat.reduceDiv, Nat.reduceMod]
def lateAt (l : List Ev) (k : Nat) : Bool := (knAt l k).late (l.getD k default)
def FirstLate (l : List Ev) (k : Nat) : Prop := k < l.length ∧ lateAt l k = true ∧ ∀ j, j < k → lateAt l j = false
def NoLate (l : List Ev) : Prop := ∀ j, j < l.length → lateAt l j = false
theorem indexLearn_ok (l : List Ev) (hl : l.length < 2147483648) : MFn Try.prog 81 [knOb (knAt l 0)] [evs l, .clo 82 1 [.ptr 0 0 0 0]]
    (fun d h => (∃ kn, h = [knOb kn]) ∧ ((∃ k, FirstLate l k ∧ d = dint k) ∨ (NoLate l ∧ d = dint (-1)))) := by
  refine MFn_hxk 1 cx_ok 200 Try.func81 rfl rfl Try.ntmps81 Try.results81 rfl fun base w pl hb => ?_
  simp only [go_sem, Nat.reduceAdd, Nat.reduceSub, Nat.reduceMul, Nat.reduceBEq, Nat.reduceLT, Nat.reduceLeDiff, Nat.reduceEqDiff, Int.reduceToNat, Int.reduceLE, Int.reduceLT, Int.reduceAdd, Int.reduceSub, Int.reduceNeg, Int.reduceBEq, Int.reduceBNe, Nat.reduceBNe, Nat.reduceDiv, Nat.reduceMod]
  refine kont_forF (G := Nat) [0, 1, 6, 7] (fun k => ∀ j, j < k → lateAt l j = false) (fun k γ => [(8, dint k)]) (fun k γ => [knOb (knAt l k)]) (l.length) (0) rfl (Weak.to 1 (by (simp only [go_sem, Nat.reduceAdd, Nat.reduceSub, Nat.reduceMul, Nat.reduceBEq, Nat.reduceLT, Nat.reduceLeDiff, Nat.reduceEqDiff, Int.reduceToNat, Int.reduceLE, Int.reduceLT, Int.reduceAdd, Int.reduceSub, Int.reduceNeg, Int.reduceBEq, Int.reduceBNe, Nat.reduceBNe, Nat.reduceDiv, Nat.reduceMod]) <;> simp)) ?_ ?_
  · intro j hj; omega
  intro k γ hk hno
  refine kont_of_hx cx_ok hb 200 ?_
  simp only [go_sem, Nat.reduceAdd, Nat.reduceSub, Nat.reduceMul, Nat.reduceBEq, Nat.reduceLT, Nat.reduceLeDiff, Nat.reduceEqDiff, Int.reduceToNat, Int.reduceLE, Int.reduceLT, Int.reduceAdd, Int.reduceSub, Int.reduceNeg, Int.reduceBEq, Int.reduceBNe, Nat.reduceBNe, Nat.reduceDiv, Nat.reduceMod]
  have hwr := wrap_succ (show k < 4611686018427387904 by omega)
  have hw := knAt_work l k
  first | refine hite_lt hk (fun hk1 => ?_) (fun hk1 => ?_) | refine hite_ltI hk (fun hk1 => ?_) (fun hk1 => ?_)
  · simp only [go_sem, Nat.reduceAdd, Nat.reduceSub, Nat.reduceMul, Nat.reduceBEq, Nat.reduceLT, Nat.reduceLeDiff, Nat.reduceEqDiff, Int.reduceToNat, Int.reduceLE, Int.reduceLT, Int.reduceAdd, Int.reduceSub, Int.reduceNeg, Int.reduceBEq, Int.reduceBNe, Nat.reduceBNe, Nat.reduceDiv, Nat.reduceMod, hk1]
    refine kont_callM hb [0] fn82 rfl ?_ (learn_ok (knAt l k) (l.getD k default) (by omega)) rfl fun d h hR => ?_
    · simp only [go_sem, Nat.reduceAdd, Nat.reduceSub, Nat.reduceMul, Nat.reduceBEq, Nat.reduceLT, Nat.reduceLeDiff, Nat.reduceEqDiff, Int.reduceToNat, Int.reduceLE, Int.reduceLT, Int.reduceAdd, Int.reduceSub, Int.reduceNeg, Int.reduceBEq, Int.reduceBNe, Nat.reduceBNe, Nat.reduceDiv, Nat.reduceMod]
    obtain ⟨rfl, rfl⟩ := hR
    simp only [go_sem, Nat.reduceAdd, Nat.reduceSub, Nat.reduceMul, Nat.reduceBEq, Nat.reduceLT, Nat.reduceLeDiff, Nat.reduceEqDiff, Int.reduceToNat, Int.reduceLE, Int.reduceLT, Int.reduceAdd, Int.reduceSub, Int.reduceNeg, Int.reduceBEq, Int.reduceBNe, Nat.reduceBNe, Nat.reduceDiv, Nat.reduceMod]
    refine kont_of_hx cx_ok hb 200 ?_
    simp only [go_sem, Nat.reduceAdd, Nat.reduceSub, Nat.reduceMul, Nat.reduceBEq, Nat.reduceLT, Nat.reduceLeDiff, Nat.reduceEqDiff, Int.reduceToNat, Int.reduceLE, Int.reduceLT, Int.reduceAdd, Int.reduceSub, Int.reduceNeg, Int.reduceBEq, Int.reduceBNe, Nat.reduceBNe, Nat.reduceDiv, Nat.reduceMod]
    have e5 : knAt l (k + 1) = (knAt l k).next (l.getD k default) := rfl
    first | refine hite_dec (fun hla => ?_) (fun hla => ?_) | refine hite_beq (fun hla => ?_) (fun hla => ?_) | refine hite_bne (fun hla => ?_) (fun hla => ?_) | refine hite_intro (fun hla => ?_) (fun hla => ?_) | refine hite_decA (fun hla => ?_) (fun hla => ?_) | refine hite_beqA (fun hla => ?_) (fun hla => ?_) | refine hite_bneA (fun hla => ?_) (fun hla => ?_) | refine hite_intro' (fun hla => ?_) (fun hla => ?_)
    · simp only [go_sem, Nat.reduceAdd, Nat.reduceSub, Nat.reduceMul, Nat.reduceBEq, Nat.reduceLT, Nat.reduceLeDiff, Nat.reduceEqDiff, Int.reduceToNat, Int.reduceLE, Int.reduceLT, Int.reduceAdd, Int.reduceSub, Int.reduceNeg, Int.reduceBEq, Int.reduceBNe, Nat.reduceBNe, Nat.reduceDiv, Nat.reduceMod]
      exact ⟨⟨_, rfl⟩, .inl ⟨k, ⟨hk1, hla, hno⟩, rfl⟩⟩
    · simp only [go_sem, Nat.reduceAdd, Nat.reduceSub, Nat.reduceMul, Nat.reduceBEq, Nat.reduceLT, Nat.reduceLeDiff, Nat.reduceEqDiff, Int.reduceToNat, Int.reduceLE, Int.reduceLT, Int.reduceAdd, Int.reduceSub, Int.reduceNeg, Int.reduceBEq, Int.reduceBNe, Nat.reduceBNe, Nat.reduceDiv, Nat.reduceMod]
      repeat (refine And.intro (by first | assumption | omega) ?_)
      refine ⟨_, Weak.to 1 (by (simp only [go_sem, Nat.reduceAdd, Nat.reduceSub, Nat.reduceMul, Nat.reduceBEq, Nat.reduceLT, Nat.reduceLeDiff, Nat.reduceEqDiff, Int.reduceToNat, Int.reduceLE, Int.reduceLT, Int.reduceAdd, Int.reduceSub, Int.reduceNeg, Int.reduceBEq, Int.reduceBNe, Nat.reduceBNe, Nat.reduceDiv, Nat.reduceMod, hwr, e5]) <;> simp), ForS.mk (0) (?_)⟩
      intro j hj
      rcases Nat.lt_succ_iff_lt_or_eq.1 hj with h | rfl
      · exact hno j h
      · exact hla
  · simp only [go_sem, Nat.reduceAdd, Nat.reduceSub, Nat.reduceMul, Nat.reduceBEq, Nat.reduceLT, Nat.reduceLeDiff, Nat.reduceEqDiff, Int.reduceToNat, Int.reduceLE, Int.reduceLT, Int.reduceAdd, Int.reduceSub, Int.reduceNeg, Int.reduceBEq, Int.reduceBNe, Nat.reduceBNe, Nat.reduceDiv, Nat.reduceMod]
    refine kont_of_hx cx_ok hb 200 ?_
    simp only [go_sem, Nat.reduceAdd, Nat.reduceSub, Nat.reduceMul, Nat.reduceBEq, Nat.reduceLT, Nat.reduceLeDiff, Nat.reduceEqDiff, Int.reduceToNat, Int.reduceLE, Int.reduceLT, Int.reduceAdd, Int.reduceSub, Int.reduceNeg, Int.reduceBEq, Int.reduceBNe, Nat.reduceBNe, Nat.reduceDiv, Nat.reduceMod]
    subst hk1
    exact ⟨⟨_, rfl⟩, .inr hno⟩
theorem late_ok (l : List Ev) (hl : l.length < 2147483648) : AFn Try.prog 39 [evs l]
    (fun d h => h = [] ∧ ((∃ k, FirstLate l k ∧ d = .tup [dint k, dbool true]) ∨ (NoLate l ∧ d = .tup [dint 0, dbool false]))) := by
  refine AFn_hxk 0 cx_ok 200 Try.func39 rfl Try.ntmps39 Try.results39 rfl fun base w hb => ?_
  simp only [go_sem, Nat.reduceAdd, Nat.reduceSub, Nat.reduceMul, Nat.reduceBEq, Nat.reduceLT, Nat.reduceLeDiff, Nat.reduceEqDiff, Int.reduceToNat, Int.reduceLE, Int.reduceLT, Int.reduceAdd, Int.reduceSub, Int.reduceNeg, Int.reduceBEq, Int.reduceBNe, Nat.reduceBNe, Nat.reduceDiv, Nat.reduceMod]
  refine kont_callM hb [0] fn81 rfl ?_ (indexLearn_ok l hl) rfl fun d h hR => ?_
  · simp only [go_sem, Nat.reduceAdd, Nat.reduceSub, Nat.reduceMul, Nat.reduceBEq, Nat.reduceLT, Nat.reduceLeDiff, Nat.reduceEqDiff, Int.reduceToNat, Int.reduceLE, Int.reduceLT, Int.reduceAdd, Int.reduceSub, Int.reduceNeg, Int.reduceBEq, Int.reduceBNe, Nat.reduceBNe, Nat.reduceDiv, Nat.reduceMod]
    simp [knAt]
  obtain ⟨⟨kn, rfl⟩, ⟨k, hk, rfl⟩ | ⟨hno, rfl⟩⟩ := hR
  · simp only [go_sem, Nat.reduceAdd, Nat.reduceSub, Nat.reduceMul, Nat.reduceBEq, Nat.reduceLT, Nat.reduceLeDiff, Nat.reduceEqDiff, Int.reduceToNat, Int.reduceLE, Int.reduceLT, Int.reduceAdd, Int.reduceSub, Int.reduceNeg, Int.reduceBEq, Int.reduceBNe, Nat.reduceBNe, Nat.reduceDiv, Nat.reduceMod]
    refine kont_of_hx cx_ok hb 200 ?_
    simp only [go_sem, Nat.reduceAdd, Nat.reduceSub, Nat.reduceMul, Nat.reduceBEq, Nat.reduceLT, Nat.reduceLeDiff, Nat.reduceEqDiff, Int.reduceToNat, Int.reduceLE, Int.reduceLT, Int.reduceAdd, Int.reduceSub, Int.reduceNeg, Int.reduceBEq, Int.reduceBNe, Nat.reduceBNe, Nat.reduceDiv, Nat.reduceMod]
    have d1 : decide ((k : Int) < 0) = false := decide_eq_false (by omega)
    simp only [go_sem, Nat.reduceAdd, Nat.reduceSub, Nat.reduceMul, Nat.reduceBEq, Nat.reduceLT, Nat.reduceLeDiff, Nat.reduceEqDiff, Int.reduceToNat, Int.reduceLE, Int.reduceLT, Int.reduceAdd, Int.reduceSub, Int.reduceNeg, Int.reduceBEq, Int.reduceBNe, Nat.reduceBNe, Nat.reduceDiv, Nat.reduceMod, d1]
    exact .inl ⟨k, hk, rfl⟩
  · simp only [go_sem, Nat.reduceAdd, Nat.reduceSub, Nat.reduceMul, Nat.reduceBEq, Nat.reduceLT, Nat.reduceLeDiff, Nat.reduceEqDiff, Int.reduceToNat, Int.reduceLE, Int.reduceLT, Int.reduceAdd, Int.reduceSub, Int.reduceNeg, Int.reduceBEq, Int.reduceBNe, Nat.reduceBNe, Nat.reduceDiv, Nat.reduceMod]
    refine kont_of_hx cx_ok hb 200 ?_
    simp only [go_sem, Nat.reduceAdd, Nat.reduceSub, Nat.reduceMul, Nat.reduceBEq, Nat.reduceLT, Nat.reduceLeDiff, Nat.reduceEqDiff, Int.reduceToNat, Int.reduceLE, Int.reduceLT, Int.reduceAdd, Int.reduceSub, Int.reduceNeg, Int.reduceBEq, Int.reduceBNe, Nat.reduceBNe, Nat.reduceDiv, Nat.reduceMod]
    exact .inr hno
end Go.Fg.X
