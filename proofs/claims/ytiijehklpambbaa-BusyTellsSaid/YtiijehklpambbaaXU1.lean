/- Walks of the functions that the statement reaches. No conditions: contracts and laws. -/
import Derived.Test.YtiijehklpambbaaXBase
namespace Go.Fg.X
open Go.Proofs Go.Fg
set_option maxRecDepth 100000
set_option maxHeartbeats 4000000
set_option linter.unusedSimpArgs false
set_option linter.unusedVariables false
def RetM (d : D) (hs : List Ob) : D → List Ob → Prop := fun d' h => d' = d ∧ h = hs
attribute [go_sem] RetM
structure Kn where
  til : Int
  since : Int
  work : Nat
@[go_sem] def Kn.cells (k : Kn) : List D := [.raw (.int .u64 k.til), .raw (.int .u64 k.since), .raw (.int .i64 k.work)]
def Kn.next (k : Kn) (e : Ev) : Kn :=
  if e.inn = true then ⟨k.til, if k.work = 0 then e.at_ else k.since, k.work + 1⟩ else ⟨max k.til e.done, k.since, k.work - 1⟩
def Kn.late (k : Kn) (e : Ev) : Bool := !e.inn && (decide (0 < k.work) && decide (max k.til k.since < e.at_))
@[go_sem] def knOb (k : Kn) : Ob := ⟨.one, 0, 3, 1, fun _ => k.cells⟩
theorem learn_ok (k : Kn) (e : Ev) (hk : k.work < 4611686018427387904) : MFn Try.prog 82 [knOb k] [.ptr 0 0 0 0, .agg e.cells] (RetM (dbool (k.late e)) [knOb (k.next e)]) := by
  refine MFn_hxk 1 cx_ok 200 Try.func82 rfl rfl Try.ntmps82 Try.results82 rfl fun base w pl hb => ?_
  simp only [go_sem, Nat.reduceAdd, Nat.reduceSub, Nat.reduceMul, Nat.reduceBEq, Nat.reduceLT, Nat.reduceLeDiff, Nat.reduceEqDiff, Int.reduceToNat, Int.reduceLE, Int.reduceLT, Int.reduceAdd, Int.reduceSub, Int.reduceNeg, Int.reduceBEq, Int.reduceBNe, Nat.reduceBNe, Nat.reduceDiv, Nat.reduceMod]
  have hwr := wrap_succ hk
  cases hi : e.inn
  · simp only [go_sem, Nat.reduceAdd, Nat.reduceSub, Nat.reduceMul, Nat.reduceBEq, Nat.reduceLT, Nat.reduceLeDiff, Nat.reduceEqDiff, Int.reduceToNat, Int.reduceLE, Int.reduceLT, Int.reduceAdd, Int.reduceSub, Int.reduceNeg, Int.reduceBEq, Int.reduceBNe, Nat.reduceBNe, Nat.reduceDiv, Nat.reduceMod]
    by_cases hw : k.work = 0
    · have d1 : decide (0 < k.work) = false := decide_eq_false (by omega)
      have d2 : decide ((0 : Int) < k.work) = false := decide_eq_false (by omega)
      have w1 : IntKind.i64.wrap ((k.work : Int) - 1) = -1 := by rw [wrap64 (by omega) (by omega)]; omega
      refine kont_hax cx_ok hb 200 mixed [(0, true), (1, true), (2, true), (3, true), (4, true), (5, true), (6, true), (7, true), (8, true), (9, true), (10, true), (11, true), (12, true), (13, true), (14, true), (15, true), (16, true), (17, true), (18, true), (19, true)] (by kernel_rfl) ?_
      simp only [go_sem, Nat.reduceAdd, Nat.reduceSub, Nat.reduceMul, Nat.reduceBEq, Nat.reduceLT, Nat.reduceLeDiff, Nat.reduceEqDiff, Int.reduceToNat, Int.reduceLE, Int.reduceLT, Int.reduceAdd, Int.reduceSub, Int.reduceNeg, Int.reduceBEq, Int.reduceBNe, Nat.reduceBNe, Nat.reduceDiv, Nat.reduceMod, d1, d2]
      refine kont_hax cx_ok hb 200 mixed [(0, true), (1, true), (2, true), (3, true), (4, true), (5, true), (6, true), (7, true), (8, true), (9, true), (10, false)] (by kernel_rfl) ?_
      simp only [go_sem, Nat.reduceAdd, Nat.reduceSub, Nat.reduceMul, Nat.reduceBEq, Nat.reduceLT, Nat.reduceLeDiff, Nat.reduceEqDiff, Int.reduceToNat, Int.reduceLE, Int.reduceLT, Int.reduceAdd, Int.reduceSub, Int.reduceNeg, Int.reduceBEq, Int.reduceBNe, Nat.reduceBNe, Nat.reduceDiv, Nat.reduceMod, w1]
      have e1 : k.late e = false := by simp [Kn.late, hw]
      have e2 : k.next e = ⟨max k.til e.done, k.since, 0⟩ := by simp [Kn.next, hi, hw]
      have e3 : max (-1 : Int) 0 = 0 := rfl
      rw [e1, e2, e3]
      simp
    · have d1 : decide (0 < k.work) = true := decide_eq_true (by omega)
      have d2 : decide ((0 : Int) < k.work) = true := decide_eq_true (by omega)
      have w1 : IntKind.i64.wrap ((k.work : Int) - 1) = ((k.work - 1 : Nat) : Int) := by rw [wrap64 (by omega) (by omega)]; omega
      refine kont_hax cx_ok hb 200 mixed [(0, true), (1, true), (2, true), (3, true), (4, true), (5, true), (6, true), (7, true), (8, true), (9, true), (10, true), (11, true), (12, true), (13, true), (14, true), (15, true), (16, true), (17, true), (18, true), (19, true)] (by kernel_rfl) ?_
      simp only [go_sem, Nat.reduceAdd, Nat.reduceSub, Nat.reduceMul, Nat.reduceBEq, Nat.reduceLT, Nat.reduceLeDiff, Nat.reduceEqDiff, Int.reduceToNat, Int.reduceLE, Int.reduceLT, Int.reduceAdd, Int.reduceSub, Int.reduceNeg, Int.reduceBEq, Int.reduceBNe, Nat.reduceBNe, Nat.reduceDiv, Nat.reduceMod, d1, d2]
      refine kont_hax cx_ok hb 200 mixed [(0, true), (1, true), (2, true), (3, true), (4, true), (5, true), (6, true), (7, true), (8, true), (9, true), (10, false)] (by kernel_rfl) ?_
      simp only [go_sem, Nat.reduceAdd, Nat.reduceSub, Nat.reduceMul, Nat.reduceBEq, Nat.reduceLT, Nat.reduceLeDiff, Nat.reduceEqDiff, Int.reduceToNat, Int.reduceLE, Int.reduceLT, Int.reduceAdd, Int.reduceSub, Int.reduceNeg, Int.reduceBEq, Int.reduceBNe, Nat.reduceBNe, Nat.reduceDiv, Nat.reduceMod, w1]
      have e2 : k.next e = ⟨max k.til e.done, k.since, k.work - 1⟩ := by simp [Kn.next, hi]
      have e3 : max ((k.work - 1 : Nat) : Int) 0 = ((k.work - 1 : Nat) : Int) := by omega
      have e1 : k.late e = decide (max k.til k.since < e.at_) := by simp only [Kn.late, hi, d1, Bool.not_false, Bool.true_and]
      rw [e1, e2, e3]
      simp
  · simp only [go_sem, Nat.reduceAdd, Nat.reduceSub, Nat.reduceMul, Nat.reduceBEq, Nat.reduceLT, Nat.reduceLeDiff, Nat.reduceEqDiff, Int.reduceToNat, Int.reduceLE, Int.reduceLT, Int.reduceAdd, Int.reduceSub, Int.reduceNeg, Int.reduceBEq, Int.reduceBNe, Nat.reduceBNe, Nat.reduceDiv, Nat.reduceMod]
    have e1 : k.late e = false := by simp [Kn.late, hi]
    first | refine hite_dec (fun hw => ?_) (fun hw => ?_) | refine hite_beq (fun hw => ?_) (fun hw => ?_) | refine hite_bne (fun hw => ?_) (fun hw => ?_) | refine hite_intro (fun hw => ?_) (fun hw => ?_) | refine hite_decA (fun hw => ?_) (fun hw => ?_) | refine hite_beqA (fun hw => ?_) (fun hw => ?_) | refine hite_bneA (fun hw => ?_) (fun hw => ?_) | refine hite_intro' (fun hw => ?_) (fun hw => ?_)
    · simp only [go_sem, Nat.reduceAdd, Nat.reduceSub, Nat.reduceMul, Nat.reduceBEq, Nat.reduceLT, Nat.reduceLeDiff, Nat.reduceEqDiff, Int.reduceToNat, Int.reduceLE, Int.reduceLT, Int.reduceAdd, Int.reduceSub, Int.reduceNeg, Int.reduceBEq, Int.reduceBNe, Nat.reduceBNe, Nat.reduceDiv, Nat.reduceMod, hwr]
      have e2 : k.next e = ⟨k.til, e.at_, k.work + 1⟩ := by simp [Kn.next, hi, show k.work = 0 by omega]
      rw [e1, e2]; simp
    · simp only [go_sem, Nat.reduceAdd, Nat.reduceSub, Nat.reduceMul, Nat.reduceBEq, Nat.reduceLT, Nat.reduceLeDiff, Nat.reduceEqDiff, Int.reduceToNat, Int.reduceLE, Int.reduceLT, Int.reduceAdd, Int.reduceSub, Int.reduceNeg, Int.reduceBEq, Int.reduceBNe, Nat.reduceBNe, Nat.reduceDiv, Nat.reduceMod, hwr]
      have e2 : k.next e = ⟨k.til, k.since, k.work + 1⟩ := by simp [Kn.next, hi, show ¬ k.work = 0 by omega]
      rw [e1, e2]; simp
end Go.Fg.X
