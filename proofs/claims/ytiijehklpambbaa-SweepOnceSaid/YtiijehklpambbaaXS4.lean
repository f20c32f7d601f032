/- Walks of the functions that the statement reaches. No conditions: contracts and laws. -/
import Derived.Test.YtiijehklpambbaaXS3
namespace Go.Fg.X
open Go.Proofs Go.Fg
set_option maxRecDepth 100000
set_option maxHeartbeats 4000000
set_option linter.unusedSimpArgs false
set_option linter.unusedVariables false
structure Sw where
  ops : List Opn
  pl : List Int
  ck : Int
def swStep (s : Sw) (o : Opn) : Sw :=
  if o.kind = 1 ∨ o.kind = 2 ∨ o.kind = 3 then ⟨s.ops ++ [o], s.pl ++ [(s.ops.length : Int)], s.ck⟩
  else if o.kind = 4 then
    if o.ticks = 0 ∨ IntKind.u64.wrap (4611686018427387904 - s.ck) < o.ticks then ⟨s.ops, s.pl ++ [-1], s.ck⟩
    else if 0 < s.ops.length ∧ (s.ops.getD (s.ops.length - 1) default).kind = 4 then
      ⟨s.ops.set (s.ops.length - 1) { s.ops.getD (s.ops.length - 1) default with ticks := IntKind.u64.wrap ((s.ops.getD (s.ops.length - 1) default).ticks + o.ticks) }, s.pl ++ [((s.ops.length - 1 : Nat) : Int)], IntKind.u64.wrap (s.ck + o.ticks)⟩
    else ⟨s.ops ++ [o], s.pl ++ [(s.ops.length : Int)], IntKind.u64.wrap (s.ck + o.ticks)⟩
  else ⟨s.ops, s.pl ++ [-1], s.ck⟩
def swAt (l : List Opn) : Nat → Sw
  | 0 => ⟨[], [], 0⟩
  | k + 1 => swStep (swAt l k) (l.getD k default)
theorem swAt_len (l : List Opn) : ∀ k, (swAt l k).pl.length = k ∧ (swAt l k).ops.length ≤ k
  | 0 => ⟨rfl, Nat.le_refl _⟩
  | k + 1 => by
    have := swAt_len l k
    simp only [swAt, swStep]
    split
    · simp; omega
    · split
      · split
        · simp; omega
        · split
          · simp; omega
          · simp; omega
      · simp; omega
theorem setrow {n : Nat} {l : List Opn} {o : Opn} (hn : n = l.length - 1) (h0 : 0 < l.length) (i : Nat) (hi : i < l.length) : (l.set n o).getD i default = bif (i == n) then o else l.getD i default := by
  by_cases h : i = n
  · subst h; rw [getD_set_eq _ _ _ _ hi]; simp
  · rw [getD_set_ne' _ _ _ _ _ (Ne.symm h), beq_eq_false_iff_ne.2 h]; rfl
theorem swept_ok (x : Scr) (h : x.ops.length < 2147483648) (ho : ∀ o ∈ x.ops, o.changes.length < 2147483648 ∧ o.rules.length < 2147483648) :
    AFn Try.prog 76 [.agg x.cells] (Ret (.tup [.agg (Scr.cells ⟨x.config, (swAt (plainS x).ops x.ops.length).ops⟩), ints (swAt (plainS x).ops x.ops.length).pl, .raw (.int .u64 (swAt (plainS x).ops x.ops.length).ck)])) := by
  refine AFn_hxk 0 cx_ok 300 Try.func76 rfl Try.ntmps76 Try.results76 rfl fun base w hb => ?_
  simp only [go_sem, Nat.reduceAdd, Nat.reduceSub, Nat.reduceMul, Nat.reduceBEq, Nat.reduceLT, Nat.reduceLeDiff, Nat.reduceEqDiff, Int.reduceToNat, Int.reduceLE, Int.reduceLT, Int.reduceAdd, Int.reduceSub, Int.reduceNeg, Int.reduceBEq, Int.reduceBNe, Nat.reduceBNe, Nat.reduceDiv, Nat.reduceMod]
  refine kont_callM hb [] fn116 rfl ?_ (splain_ok x h ho) rfl fun d h hR => ?_
  · simp only [go_sem, Nat.reduceAdd, Nat.reduceSub, Nat.reduceMul, Nat.reduceBEq, Nat.reduceLT, Nat.reduceLeDiff, Nat.reduceEqDiff, Int.reduceToNat, Int.reduceLE, Int.reduceLT, Int.reduceAdd, Int.reduceSub, Int.reduceNeg, Int.reduceBEq, Int.reduceBNe, Nat.reduceBNe, Nat.reduceDiv, Nat.reduceMod]
  obtain ⟨rfl, rfl⟩ := hR
  simp only [go_sem, Nat.reduceAdd, Nat.reduceSub, Nat.reduceMul, Nat.reduceBEq, Nat.reduceLT, Nat.reduceLeDiff, Nat.reduceEqDiff, Int.reduceToNat, Int.reduceLE, Int.reduceLT, Int.reduceAdd, Int.reduceSub, Int.reduceNeg, Int.reduceBEq, Int.reduceBNe, Nat.reduceBNe, Nat.reduceDiv, Nat.reduceMod]
  refine kont_weak_ops (Weak.phantomOb 2 2 10 (Opn.rows []) rfl rfl rfl rfl) ?_
  simp only [go_sem, Nat.reduceAdd, Nat.reduceSub, Nat.reduceMul, Nat.reduceBEq, Nat.reduceLT, Nat.reduceLeDiff, Nat.reduceEqDiff, Int.reduceToNat, Int.reduceLE, Int.reduceLT, Int.reduceAdd, Int.reduceSub, Int.reduceNeg, Int.reduceBEq, Int.reduceBNe, Nat.reduceBNe, Nat.reduceDiv, Nat.reduceMod]
  refine kont_weak_ops (Weak.phantom 6 1 (rowsI .i64 []) rfl) ?_
  simp only [go_sem, Nat.reduceAdd, Nat.reduceSub, Nat.reduceMul, Nat.reduceBEq, Nat.reduceLT, Nat.reduceLeDiff, Nat.reduceEqDiff, Int.reduceToNat, Int.reduceLE, Int.reduceLT, Int.reduceAdd, Int.reduceSub, Int.reduceNeg, Int.reduceBEq, Int.reduceBNe, Nat.reduceBNe, Nat.reduceDiv, Nat.reduceMod]
  refine kont_of_hx cx_ok hb 200 ?_
  simp only [go_sem, Nat.reduceAdd, Nat.reduceSub, Nat.reduceMul, Nat.reduceBEq, Nat.reduceLT, Nat.reduceLeDiff, Nat.reduceEqDiff, Int.reduceToNat, Int.reduceLE, Int.reduceLT, Int.reduceAdd, Int.reduceSub, Int.reduceNeg, Int.reduceBEq, Int.reduceBNe, Nat.reduceBNe, Nat.reduceDiv, Nat.reduceMod]
  have hL : (plainS x).ops.length = x.ops.length := by simp [plainS]
  generalize hLL : (plainS x).ops = L at *
  simp only [hL]
  refine kont_forF (G := Nat) [2, 5, 16, 17] (fun k => True) (fun k γ => [(6, .ref 4 k 0 (swAt L k).pl.length), (7, .raw (.int .u64 (swAt L k).ck)), (18, dint k)]) (fun k γ => [⟨.one, 0, 3, 1, fun _ => x.cells⟩, ⟨.one, 0, 3, 1, fun _ => [.raw (.int .i64 0), .raw (.int .i64 0), .nil]⟩, ⟨.one, 0, 3, 1, fun _ => [.raw (.int .i64 x.config.t), .raw (.int .i64 x.config.lmax), .ref 3 (swAt L k).ops.length 0 (swAt L k).ops.length]⟩, ⟨.arr, (swAt L k).ops.length, 10, (swAt L k).ops.length, Opn.rows (swAt L k).ops⟩, ⟨.arr, k, 1, (swAt L k).pl.length, rowsI .i64 (swAt L k).pl⟩]) (x.ops.length) (0) rfl (Weak.to 5 (by (simp only [go_sem, Nat.reduceAdd, Nat.reduceSub, Nat.reduceMul, Nat.reduceBEq, Nat.reduceLT, Nat.reduceLeDiff, Nat.reduceEqDiff, Int.reduceToNat, Int.reduceLE, Int.reduceLT, Int.reduceAdd, Int.reduceSub, Int.reduceNeg, Int.reduceBEq, Int.reduceBNe, Nat.reduceBNe, Nat.reduceDiv, Nat.reduceMod, swAt]) <;> simp)) trivial ?_
  intro k γ hk _
  refine kont_of_hx cx_ok hb 200 ?_
  simp only [go_sem, Nat.reduceAdd, Nat.reduceSub, Nat.reduceMul, Nat.reduceBEq, Nat.reduceLT, Nat.reduceLeDiff, Nat.reduceEqDiff, Int.reduceToNat, Int.reduceLE, Int.reduceLT, Int.reduceAdd, Int.reduceSub, Int.reduceNeg, Int.reduceBEq, Int.reduceBNe, Nat.reduceBNe, Nat.reduceDiv, Nat.reduceMod]
  have hwr := wrap_succ (show k < 4611686018427387904 by omega)
  have hlen := swAt_len L k
  first | refine hite_lt hk (fun hk1 => ?_) (fun hk1 => ?_) | refine hite_ltI hk (fun hk1 => ?_) (fun hk1 => ?_)
  · have e5 : swAt L (k + 1) = swStep (swAt L k) (L.getD k default) := rfl
    generalize hoe : L.getD k default = o at *
    generalize hse : swAt L k = s at *
    have hh : k < L.length := by omega
    by_cases c1 : o.kind = 1
    · have e6 : o.kind = 1 ∨ o.kind = 2 ∨ o.kind = 3 := .inl c1
      rw [swStep, if_pos e6] at e5
      simp only [go_sem, Nat.reduceAdd, Nat.reduceSub, Nat.reduceMul, Nat.reduceBEq, Nat.reduceLT, Nat.reduceLeDiff, Nat.reduceEqDiff, Int.reduceToNat, Int.reduceLE, Int.reduceLT, Int.reduceAdd, Int.reduceSub, Int.reduceNeg, Int.reduceBEq, Int.reduceBNe, Nat.reduceBNe, Nat.reduceDiv, Nat.reduceMod, hk1, hoe, beqT c1]
      repeat (refine And.intro (by first | assumption | omega) ?_)
      refine ⟨_, Weak.to 5 ⟨?_, ?_, ?_, ?_⟩, ForS.mk γ trivial⟩
      · simp only [go_sem, Nat.reduceAdd, Nat.reduceSub, Nat.reduceMul, Nat.reduceBEq, Nat.reduceLT, Nat.reduceLeDiff, Nat.reduceEqDiff, Int.reduceToNat, Int.reduceLE, Int.reduceLT, Int.reduceAdd, Int.reduceSub, Int.reduceNeg, Int.reduceBEq, Int.reduceBNe, Nat.reduceBNe, Nat.reduceDiv, Nat.reduceMod, hwr, e5, List.length_append]
      · simp only [go_sem, Nat.reduceAdd, Nat.reduceSub, Nat.reduceMul, Nat.reduceBEq, Nat.reduceLT, Nat.reduceLeDiff, Nat.reduceEqDiff, Int.reduceToNat, Int.reduceLE, Int.reduceLT, Int.reduceAdd, Int.reduceSub, Int.reduceNeg, Int.reduceBEq, Int.reduceBNe, Nat.reduceBNe, Nat.reduceDiv, Nat.reduceMod]
      · simp only [go_sem, Nat.reduceAdd, Nat.reduceSub, Nat.reduceMul, Nat.reduceBEq, Nat.reduceLT, Nat.reduceLeDiff, Nat.reduceEqDiff, Int.reduceToNat, Int.reduceLE, Int.reduceLT, Int.reduceAdd, Int.reduceSub, Int.reduceNeg, Int.reduceBEq, Int.reduceBNe, Nat.reduceBNe, Nat.reduceDiv, Nat.reduceMod]
      · simp only [go_sem, Nat.reduceAdd, Nat.reduceSub, Nat.reduceMul, Nat.reduceBEq, Nat.reduceLT, Nat.reduceLeDiff, Nat.reduceEqDiff, Int.reduceToNat, Int.reduceLE, Int.reduceLT, Int.reduceAdd, Int.reduceSub, Int.reduceNeg, Int.reduceBEq, Int.reduceBNe, Nat.reduceBNe, Nat.reduceDiv, Nat.reduceMod, e5, List.length_append]
        refine ⟨fun i hi => ?_, fun i hi => ?_⟩
        · rw [getD_app _ _ _ _ hi]
          cases decide (i < s.ops.length) <;> rfl
        · rw [getD_app _ _ _ _ hi]
          cases decide (i < s.pl.length) <;> rfl
    by_cases c2 : o.kind = 2
    · have e6 : o.kind = 1 ∨ o.kind = 2 ∨ o.kind = 3 := .inr (.inl c2)
      rw [swStep, if_pos e6] at e5
      simp only [go_sem, Nat.reduceAdd, Nat.reduceSub, Nat.reduceMul, Nat.reduceBEq, Nat.reduceLT, Nat.reduceLeDiff, Nat.reduceEqDiff, Int.reduceToNat, Int.reduceLE, Int.reduceLT, Int.reduceAdd, Int.reduceSub, Int.reduceNeg, Int.reduceBEq, Int.reduceBNe, Nat.reduceBNe, Nat.reduceDiv, Nat.reduceMod, hk1, hoe, beqF c1, beqT c2]
      repeat (refine And.intro (by first | assumption | omega) ?_)
      refine ⟨_, Weak.to 5 ⟨?_, ?_, ?_, ?_⟩, ForS.mk γ trivial⟩
      · simp only [go_sem, Nat.reduceAdd, Nat.reduceSub, Nat.reduceMul, Nat.reduceBEq, Nat.reduceLT, Nat.reduceLeDiff, Nat.reduceEqDiff, Int.reduceToNat, Int.reduceLE, Int.reduceLT, Int.reduceAdd, Int.reduceSub, Int.reduceNeg, Int.reduceBEq, Int.reduceBNe, Nat.reduceBNe, Nat.reduceDiv, Nat.reduceMod, hwr, e5, List.length_append]
      · simp only [go_sem, Nat.reduceAdd, Nat.reduceSub, Nat.reduceMul, Nat.reduceBEq, Nat.reduceLT, Nat.reduceLeDiff, Nat.reduceEqDiff, Int.reduceToNat, Int.reduceLE, Int.reduceLT, Int.reduceAdd, Int.reduceSub, Int.reduceNeg, Int.reduceBEq, Int.reduceBNe, Nat.reduceBNe, Nat.reduceDiv, Nat.reduceMod]
      · simp only [go_sem, Nat.reduceAdd, Nat.reduceSub, Nat.reduceMul, Nat.reduceBEq, Nat.reduceLT, Nat.reduceLeDiff, Nat.reduceEqDiff, Int.reduceToNat, Int.reduceLE, Int.reduceLT, Int.reduceAdd, Int.reduceSub, Int.reduceNeg, Int.reduceBEq, Int.reduceBNe, Nat.reduceBNe, Nat.reduceDiv, Nat.reduceMod]
      · simp only [go_sem, Nat.reduceAdd, Nat.reduceSub, Nat.reduceMul, Nat.reduceBEq, Nat.reduceLT, Nat.reduceLeDiff, Nat.reduceEqDiff, Int.reduceToNat, Int.reduceLE, Int.reduceLT, Int.reduceAdd, Int.reduceSub, Int.reduceNeg, Int.reduceBEq, Int.reduceBNe, Nat.reduceBNe, Nat.reduceDiv, Nat.reduceMod, e5, List.length_append]
        refine ⟨fun i hi => ?_, fun i hi => ?_⟩
        · rw [getD_app _ _ _ _ hi]
          cases decide (i < s.ops.length) <;> rfl
        · rw [getD_app _ _ _ _ hi]
          cases decide (i < s.pl.length) <;> rfl
    by_cases c3 : o.kind = 3
    · have e6 : o.kind = 1 ∨ o.kind = 2 ∨ o.kind = 3 := .inr (.inr c3)
      rw [swStep, if_pos e6] at e5
      simp only [go_sem, Nat.reduceAdd, Nat.reduceSub, Nat.reduceMul, Nat.reduceBEq, Nat.reduceLT, Nat.reduceLeDiff, Nat.reduceEqDiff, Int.reduceToNat, Int.reduceLE, Int.reduceLT, Int.reduceAdd, Int.reduceSub, Int.reduceNeg, Int.reduceBEq, Int.reduceBNe, Nat.reduceBNe, Nat.reduceDiv, Nat.reduceMod, hk1, hoe, beqF c1, beqF c2, beqT c3]
      repeat (refine And.intro (by first | assumption | omega) ?_)
      refine ⟨_, Weak.to 5 ⟨?_, ?_, ?_, ?_⟩, ForS.mk γ trivial⟩
      · simp only [go_sem, Nat.reduceAdd, Nat.reduceSub, Nat.reduceMul, Nat.reduceBEq, Nat.reduceLT, Nat.reduceLeDiff, Nat.reduceEqDiff, Int.reduceToNat, Int.reduceLE, Int.reduceLT, Int.reduceAdd, Int.reduceSub, Int.reduceNeg, Int.reduceBEq, Int.reduceBNe, Nat.reduceBNe, Nat.reduceDiv, Nat.reduceMod, hwr, e5, List.length_append]
      · simp only [go_sem, Nat.reduceAdd, Nat.reduceSub, Nat.reduceMul, Nat.reduceBEq, Nat.reduceLT, Nat.reduceLeDiff, Nat.reduceEqDiff, Int.reduceToNat, Int.reduceLE, Int.reduceLT, Int.reduceAdd, Int.reduceSub, Int.reduceNeg, Int.reduceBEq, Int.reduceBNe, Nat.reduceBNe, Nat.reduceDiv, Nat.reduceMod]
      · simp only [go_sem, Nat.reduceAdd, Nat.reduceSub, Nat.reduceMul, Nat.reduceBEq, Nat.reduceLT, Nat.reduceLeDiff, Nat.reduceEqDiff, Int.reduceToNat, Int.reduceLE, Int.reduceLT, Int.reduceAdd, Int.reduceSub, Int.reduceNeg, Int.reduceBEq, Int.reduceBNe, Nat.reduceBNe, Nat.reduceDiv, Nat.reduceMod]
      · simp only [go_sem, Nat.reduceAdd, Nat.reduceSub, Nat.reduceMul, Nat.reduceBEq, Nat.reduceLT, Nat.reduceLeDiff, Nat.reduceEqDiff, Int.reduceToNat, Int.reduceLE, Int.reduceLT, Int.reduceAdd, Int.reduceSub, Int.reduceNeg, Int.reduceBEq, Int.reduceBNe, Nat.reduceBNe, Nat.reduceDiv, Nat.reduceMod, e5, List.length_append]
        refine ⟨fun i hi => ?_, fun i hi => ?_⟩
        · rw [getD_app _ _ _ _ hi]
          cases decide (i < s.ops.length) <;> rfl
        · rw [getD_app _ _ _ _ hi]
          cases decide (i < s.pl.length) <;> rfl
    have e6 : ¬ (o.kind = 1 ∨ o.kind = 2 ∨ o.kind = 3) := by omega
    by_cases c4 : o.kind = 4
    case neg =>
      rw [swStep, if_neg e6, if_neg c4] at e5
      simp only [go_sem, Nat.reduceAdd, Nat.reduceSub, Nat.reduceMul, Nat.reduceBEq, Nat.reduceLT, Nat.reduceLeDiff, Nat.reduceEqDiff, Int.reduceToNat, Int.reduceLE, Int.reduceLT, Int.reduceAdd, Int.reduceSub, Int.reduceNeg, Int.reduceBEq, Int.reduceBNe, Nat.reduceBNe, Nat.reduceDiv, Nat.reduceMod, hk1, hoe, beqF c1, beqF c2, beqF c3, beqF c4]
      repeat (refine And.intro (by first | assumption | omega) ?_)
      refine ⟨_, Weak.to 5 ⟨?_, ?_, ?_, ?_⟩, ForS.mk γ trivial⟩
      · simp only [go_sem, Nat.reduceAdd, Nat.reduceSub, Nat.reduceMul, Nat.reduceBEq, Nat.reduceLT, Nat.reduceLeDiff, Nat.reduceEqDiff, Int.reduceToNat, Int.reduceLE, Int.reduceLT, Int.reduceAdd, Int.reduceSub, Int.reduceNeg, Int.reduceBEq, Int.reduceBNe, Nat.reduceBNe, Nat.reduceDiv, Nat.reduceMod, hwr, e5, List.length_append]
      · simp only [go_sem, Nat.reduceAdd, Nat.reduceSub, Nat.reduceMul, Nat.reduceBEq, Nat.reduceLT, Nat.reduceLeDiff, Nat.reduceEqDiff, Int.reduceToNat, Int.reduceLE, Int.reduceLT, Int.reduceAdd, Int.reduceSub, Int.reduceNeg, Int.reduceBEq, Int.reduceBNe, Nat.reduceBNe, Nat.reduceDiv, Nat.reduceMod]
      · simp only [go_sem, Nat.reduceAdd, Nat.reduceSub, Nat.reduceMul, Nat.reduceBEq, Nat.reduceLT, Nat.reduceLeDiff, Nat.reduceEqDiff, Int.reduceToNat, Int.reduceLE, Int.reduceLT, Int.reduceAdd, Int.reduceSub, Int.reduceNeg, Int.reduceBEq, Int.reduceBNe, Nat.reduceBNe, Nat.reduceDiv, Nat.reduceMod]
      · simp only [go_sem, Nat.reduceAdd, Nat.reduceSub, Nat.reduceMul, Nat.reduceBEq, Nat.reduceLT, Nat.reduceLeDiff, Nat.reduceEqDiff, Int.reduceToNat, Int.reduceLE, Int.reduceLT, Int.reduceAdd, Int.reduceSub, Int.reduceNeg, Int.reduceBEq, Int.reduceBNe, Nat.reduceBNe, Nat.reduceDiv, Nat.reduceMod, e5, List.length_append]
        intro i hi
        rw [getD_app _ _ _ _ hi]
        cases decide (i < s.pl.length) <;> rfl
    by_cases c5 : o.ticks = 0
    · rw [swStep, if_neg e6, if_pos c4, if_pos (.inl c5)] at e5
      simp only [go_sem, Nat.reduceAdd, Nat.reduceSub, Nat.reduceMul, Nat.reduceBEq, Nat.reduceLT, Nat.reduceLeDiff, Nat.reduceEqDiff, Int.reduceToNat, Int.reduceLE, Int.reduceLT, Int.reduceAdd, Int.reduceSub, Int.reduceNeg, Int.reduceBEq, Int.reduceBNe, Nat.reduceBNe, Nat.reduceDiv, Nat.reduceMod, hk1, hoe, beqF c1, beqF c2, beqF c3, beqT c4, beqT c5]
      repeat (refine And.intro (by first | assumption | omega) ?_)
      refine ⟨_, Weak.to 5 ⟨?_, ?_, ?_, ?_⟩, ForS.mk γ trivial⟩
      · simp only [go_sem, Nat.reduceAdd, Nat.reduceSub, Nat.reduceMul, Nat.reduceBEq, Nat.reduceLT, Nat.reduceLeDiff, Nat.reduceEqDiff, Int.reduceToNat, Int.reduceLE, Int.reduceLT, Int.reduceAdd, Int.reduceSub, Int.reduceNeg, Int.reduceBEq, Int.reduceBNe, Nat.reduceBNe, Nat.reduceDiv, Nat.reduceMod, hwr, e5, List.length_append]
      · simp only [go_sem, Nat.reduceAdd, Nat.reduceSub, Nat.reduceMul, Nat.reduceBEq, Nat.reduceLT, Nat.reduceLeDiff, Nat.reduceEqDiff, Int.reduceToNat, Int.reduceLE, Int.reduceLT, Int.reduceAdd, Int.reduceSub, Int.reduceNeg, Int.reduceBEq, Int.reduceBNe, Nat.reduceBNe, Nat.reduceDiv, Nat.reduceMod]
      · simp only [go_sem, Nat.reduceAdd, Nat.reduceSub, Nat.reduceMul, Nat.reduceBEq, Nat.reduceLT, Nat.reduceLeDiff, Nat.reduceEqDiff, Int.reduceToNat, Int.reduceLE, Int.reduceLT, Int.reduceAdd, Int.reduceSub, Int.reduceNeg, Int.reduceBEq, Int.reduceBNe, Nat.reduceBNe, Nat.reduceDiv, Nat.reduceMod]
      · simp only [go_sem, Nat.reduceAdd, Nat.reduceSub, Nat.reduceMul, Nat.reduceBEq, Nat.reduceLT, Nat.reduceLeDiff, Nat.reduceEqDiff, Int.reduceToNat, Int.reduceLE, Int.reduceLT, Int.reduceAdd, Int.reduceSub, Int.reduceNeg, Int.reduceBEq, Int.reduceBNe, Nat.reduceBNe, Nat.reduceDiv, Nat.reduceMod, e5, List.length_append]
        intro i hi
        rw [getD_app _ _ _ _ hi]
        cases decide (i < s.pl.length) <;> rfl
    by_cases c6 : IntKind.u64.wrap (4611686018427387904 - s.ck) < o.ticks
    · have e7 : (o.ticks = 0 ∨ IntKind.u64.wrap (4611686018427387904 - s.ck) < o.ticks) := .inr c6
      rw [swStep, if_neg e6, if_pos c4, if_pos e7] at e5
      simp only [go_sem, Nat.reduceAdd, Nat.reduceSub, Nat.reduceMul, Nat.reduceBEq, Nat.reduceLT, Nat.reduceLeDiff, Nat.reduceEqDiff, Int.reduceToNat, Int.reduceLE, Int.reduceLT, Int.reduceAdd, Int.reduceSub, Int.reduceNeg, Int.reduceBEq, Int.reduceBNe, Nat.reduceBNe, Nat.reduceDiv, Nat.reduceMod, hk1, hoe, beqF c1, beqF c2, beqF c3, beqT c4, beqF c5, decide_eq_true c6]
      repeat (refine And.intro (by first | assumption | omega) ?_)
      refine ⟨_, Weak.to 5 ⟨?_, ?_, ?_, ?_⟩, ForS.mk γ trivial⟩
      · simp only [go_sem, Nat.reduceAdd, Nat.reduceSub, Nat.reduceMul, Nat.reduceBEq, Nat.reduceLT, Nat.reduceLeDiff, Nat.reduceEqDiff, Int.reduceToNat, Int.reduceLE, Int.reduceLT, Int.reduceAdd, Int.reduceSub, Int.reduceNeg, Int.reduceBEq, Int.reduceBNe, Nat.reduceBNe, Nat.reduceDiv, Nat.reduceMod, hwr, e5, List.length_append]
      · simp only [go_sem, Nat.reduceAdd, Nat.reduceSub, Nat.reduceMul, Nat.reduceBEq, Nat.reduceLT, Nat.reduceLeDiff, Nat.reduceEqDiff, Int.reduceToNat, Int.reduceLE, Int.reduceLT, Int.reduceAdd, Int.reduceSub, Int.reduceNeg, Int.reduceBEq, Int.reduceBNe, Nat.reduceBNe, Nat.reduceDiv, Nat.reduceMod]
      · simp only [go_sem, Nat.reduceAdd, Nat.reduceSub, Nat.reduceMul, Nat.reduceBEq, Nat.reduceLT, Nat.reduceLeDiff, Nat.reduceEqDiff, Int.reduceToNat, Int.reduceLE, Int.reduceLT, Int.reduceAdd, Int.reduceSub, Int.reduceNeg, Int.reduceBEq, Int.reduceBNe, Nat.reduceBNe, Nat.reduceDiv, Nat.reduceMod]
      · simp only [go_sem, Nat.reduceAdd, Nat.reduceSub, Nat.reduceMul, Nat.reduceBEq, Nat.reduceLT, Nat.reduceLeDiff, Nat.reduceEqDiff, Int.reduceToNat, Int.reduceLE, Int.reduceLT, Int.reduceAdd, Int.reduceSub, Int.reduceNeg, Int.reduceBEq, Int.reduceBNe, Nat.reduceBNe, Nat.reduceDiv, Nat.reduceMod, e5, List.length_append]
        intro i hi
        rw [getD_app _ _ _ _ hi]
        cases decide (i < s.pl.length) <;> rfl
    have e7 : ¬ (o.ticks = 0 ∨ IntKind.u64.wrap (4611686018427387904 - s.ck) < o.ticks) := by omega
    by_cases c7 : s.ops.length = 0
    · have e8 : ¬ (0 < s.ops.length ∧ (s.ops.getD (s.ops.length - 1) default).kind = 4) := by omega
      rw [swStep, if_neg e6, if_pos c4, if_neg e7, if_neg e8] at e5
      have c7' : decide (0 < s.ops.length) = false := decide_eq_false (by omega)
      have c7'' : decide ((0 : Int) < s.ops.length) = false := decide_eq_false (by omega)
      simp only [go_sem, Nat.reduceAdd, Nat.reduceSub, Nat.reduceMul, Nat.reduceBEq, Nat.reduceLT, Nat.reduceLeDiff, Nat.reduceEqDiff, Int.reduceToNat, Int.reduceLE, Int.reduceLT, Int.reduceAdd, Int.reduceSub, Int.reduceNeg, Int.reduceBEq, Int.reduceBNe, Nat.reduceBNe, Nat.reduceDiv, Nat.reduceMod, hk1, hoe, beqF c1, beqF c2, beqF c3, beqT c4, beqF c5, decide_eq_false c6, c7', c7'']
      repeat (refine And.intro (by first | assumption | omega) ?_)
      refine ⟨_, Weak.to 5 ⟨?_, ?_, ?_, ?_⟩, ForS.mk γ trivial⟩
      · simp only [go_sem, Nat.reduceAdd, Nat.reduceSub, Nat.reduceMul, Nat.reduceBEq, Nat.reduceLT, Nat.reduceLeDiff, Nat.reduceEqDiff, Int.reduceToNat, Int.reduceLE, Int.reduceLT, Int.reduceAdd, Int.reduceSub, Int.reduceNeg, Int.reduceBEq, Int.reduceBNe, Nat.reduceBNe, Nat.reduceDiv, Nat.reduceMod, hwr, e5, List.length_append]
      · simp only [go_sem, Nat.reduceAdd, Nat.reduceSub, Nat.reduceMul, Nat.reduceBEq, Nat.reduceLT, Nat.reduceLeDiff, Nat.reduceEqDiff, Int.reduceToNat, Int.reduceLE, Int.reduceLT, Int.reduceAdd, Int.reduceSub, Int.reduceNeg, Int.reduceBEq, Int.reduceBNe, Nat.reduceBNe, Nat.reduceDiv, Nat.reduceMod]
      · simp only [go_sem, Nat.reduceAdd, Nat.reduceSub, Nat.reduceMul, Nat.reduceBEq, Nat.reduceLT, Nat.reduceLeDiff, Nat.reduceEqDiff, Int.reduceToNat, Int.reduceLE, Int.reduceLT, Int.reduceAdd, Int.reduceSub, Int.reduceNeg, Int.reduceBEq, Int.reduceBNe, Nat.reduceBNe, Nat.reduceDiv, Nat.reduceMod]
      · simp only [go_sem, Nat.reduceAdd, Nat.reduceSub, Nat.reduceMul, Nat.reduceBEq, Nat.reduceLT, Nat.reduceLeDiff, Nat.reduceEqDiff, Int.reduceToNat, Int.reduceLE, Int.reduceLT, Int.reduceAdd, Int.reduceSub, Int.reduceNeg, Int.reduceBEq, Int.reduceBNe, Nat.reduceBNe, Nat.reduceDiv, Nat.reduceMod, e5, List.length_append]
        refine ⟨fun i hi => ?_, fun i hi => ?_⟩
        · rw [getD_app _ _ _ _ hi]
          cases decide (i < s.ops.length) <;> rfl
        · rw [getD_app _ _ _ _ hi]
          cases decide (i < s.pl.length) <;> rfl
    have c7' : decide (0 < s.ops.length) = true := decide_eq_true (by omega)
    have c7'' : decide ((0 : Int) < s.ops.length) = true := decide_eq_true (by omega)
    have hw1 : IntKind.i64.wrap ((s.ops.length : Int) - 1) = ((s.ops.length - 1 : Nat) : Int) := by rw [wrap64 (by omega) (by omega)]; omega
    have hlt : s.ops.length - 1 < s.ops.length := by omega
    by_cases c8 : (s.ops.getD (s.ops.length - 1) default).kind = 4
    case neg =>
      have e8 : ¬ (0 < s.ops.length ∧ (s.ops.getD (s.ops.length - 1) default).kind = 4) := fun h => c8 h.2
      rw [swStep, if_neg e6, if_pos c4, if_neg e7, if_neg e8] at e5
      simp only [go_sem, Nat.reduceAdd, Nat.reduceSub, Nat.reduceMul, Nat.reduceBEq, Nat.reduceLT, Nat.reduceLeDiff, Nat.reduceEqDiff, Int.reduceToNat, Int.reduceLE, Int.reduceLT, Int.reduceAdd, Int.reduceSub, Int.reduceNeg, Int.reduceBEq, Int.reduceBNe, Nat.reduceBNe, Nat.reduceDiv, Nat.reduceMod, hk1, hoe, beqF c1, beqF c2, beqF c3, beqT c4, beqF c5, decide_eq_false c6, c7', c7'', hw1, hlt, beqF c8]
      repeat (refine And.intro (by first | assumption | omega) ?_)
      refine ⟨_, Weak.to 5 ⟨?_, ?_, ?_, ?_⟩, ForS.mk γ trivial⟩
      · simp only [go_sem, Nat.reduceAdd, Nat.reduceSub, Nat.reduceMul, Nat.reduceBEq, Nat.reduceLT, Nat.reduceLeDiff, Nat.reduceEqDiff, Int.reduceToNat, Int.reduceLE, Int.reduceLT, Int.reduceAdd, Int.reduceSub, Int.reduceNeg, Int.reduceBEq, Int.reduceBNe, Nat.reduceBNe, Nat.reduceDiv, Nat.reduceMod, hwr, e5, List.length_append]
      · simp only [go_sem, Nat.reduceAdd, Nat.reduceSub, Nat.reduceMul, Nat.reduceBEq, Nat.reduceLT, Nat.reduceLeDiff, Nat.reduceEqDiff, Int.reduceToNat, Int.reduceLE, Int.reduceLT, Int.reduceAdd, Int.reduceSub, Int.reduceNeg, Int.reduceBEq, Int.reduceBNe, Nat.reduceBNe, Nat.reduceDiv, Nat.reduceMod]
      · simp only [go_sem, Nat.reduceAdd, Nat.reduceSub, Nat.reduceMul, Nat.reduceBEq, Nat.reduceLT, Nat.reduceLeDiff, Nat.reduceEqDiff, Int.reduceToNat, Int.reduceLE, Int.reduceLT, Int.reduceAdd, Int.reduceSub, Int.reduceNeg, Int.reduceBEq, Int.reduceBNe, Nat.reduceBNe, Nat.reduceDiv, Nat.reduceMod]
      · simp only [go_sem, Nat.reduceAdd, Nat.reduceSub, Nat.reduceMul, Nat.reduceBEq, Nat.reduceLT, Nat.reduceLeDiff, Nat.reduceEqDiff, Int.reduceToNat, Int.reduceLE, Int.reduceLT, Int.reduceAdd, Int.reduceSub, Int.reduceNeg, Int.reduceBEq, Int.reduceBNe, Nat.reduceBNe, Nat.reduceDiv, Nat.reduceMod, e5, List.length_append]
        refine ⟨fun i hi => ?_, fun i hi => ?_⟩
        · rw [getD_app _ _ _ _ hi]
          cases decide (i < s.ops.length) <;> rfl
        · rw [getD_app _ _ _ _ hi]
          cases decide (i < s.pl.length) <;> rfl
    have e8 : (0 < s.ops.length ∧ (s.ops.getD (s.ops.length - 1) default).kind = 4) := ⟨by omega, c8⟩
    rw [swStep, if_neg e6, if_pos c4, if_neg e7, if_pos e8] at e5
    simp only [go_sem, Nat.reduceAdd, Nat.reduceSub, Nat.reduceMul, Nat.reduceBEq, Nat.reduceLT, Nat.reduceLeDiff, Nat.reduceEqDiff, Int.reduceToNat, Int.reduceLE, Int.reduceLT, Int.reduceAdd, Int.reduceSub, Int.reduceNeg, Int.reduceBEq, Int.reduceBNe, Nat.reduceBNe, Nat.reduceDiv, Nat.reduceMod, hk1, hoe, beqF c1, beqF c2, beqF c3, beqT c4, beqF c5, decide_eq_false c6, c7', c7'', hw1, hlt, beqT c8]
    refine kont_hax cx_ok hb 200 mixed [(0, true), (1, true), (2, true), (3, true), (4, true), (5, true), (6, true), (7, true), (8, true), (9, true), (10, true), (11, true), (12, false)] (by kernel_rfl) ?_
    simp only [go_sem, Nat.reduceAdd, Nat.reduceSub, Nat.reduceMul, Nat.reduceBEq, Nat.reduceLT, Nat.reduceLeDiff, Nat.reduceEqDiff, Int.reduceToNat, Int.reduceLE, Int.reduceLT, Int.reduceAdd, Int.reduceSub, Int.reduceNeg, Int.reduceBEq, Int.reduceBNe, Nat.reduceBNe, Nat.reduceDiv, Nat.reduceMod, hw1, hlt]
    repeat (refine And.intro (by first | assumption | omega) ?_)
    refine ⟨_, Weak.to 5 ⟨?_, ?_, ?_, ?_⟩, ForS.mk γ trivial⟩
    · simp only [go_sem, Nat.reduceAdd, Nat.reduceSub, Nat.reduceMul, Nat.reduceBEq, Nat.reduceLT, Nat.reduceLeDiff, Nat.reduceEqDiff, Int.reduceToNat, Int.reduceLE, Int.reduceLT, Int.reduceAdd, Int.reduceSub, Int.reduceNeg, Int.reduceBEq, Int.reduceBNe, Nat.reduceBNe, Nat.reduceDiv, Nat.reduceMod, hwr, e5, List.length_append]
    · simp only [go_sem, Nat.reduceAdd, Nat.reduceSub, Nat.reduceMul, Nat.reduceBEq, Nat.reduceLT, Nat.reduceLeDiff, Nat.reduceEqDiff, Int.reduceToNat, Int.reduceLE, Int.reduceLT, Int.reduceAdd, Int.reduceSub, Int.reduceNeg, Int.reduceBEq, Int.reduceBNe, Nat.reduceBNe, Nat.reduceDiv, Nat.reduceMod]
    · simp only [go_sem, Nat.reduceAdd, Nat.reduceSub, Nat.reduceMul, Nat.reduceBEq, Nat.reduceLT, Nat.reduceLeDiff, Nat.reduceEqDiff, Int.reduceToNat, Int.reduceLE, Int.reduceLT, Int.reduceAdd, Int.reduceSub, Int.reduceNeg, Int.reduceBEq, Int.reduceBNe, Nat.reduceBNe, Nat.reduceDiv, Nat.reduceMod]
    · simp only [go_sem, Nat.reduceAdd, Nat.reduceSub, Nat.reduceMul, Nat.reduceBEq, Nat.reduceLT, Nat.reduceLeDiff, Nat.reduceEqDiff, Int.reduceToNat, Int.reduceLE, Int.reduceLT, Int.reduceAdd, Int.reduceSub, Int.reduceNeg, Int.reduceBEq, Int.reduceBNe, Nat.reduceBNe, Nat.reduceDiv, Nat.reduceMod, e5, List.length_append, List.length_set]
      refine ⟨fun i hi => ?_, fun i hi => ?_⟩
      · rw [setrow rfl (by omega) _ hi]
        cases (i == s.ops.length - 1) <;> rfl
      · rw [getD_app _ _ _ _ hi]
        cases decide (i < s.pl.length) <;> rfl
  · simp only [go_sem, Nat.reduceAdd, Nat.reduceSub, Nat.reduceMul, Nat.reduceBEq, Nat.reduceLT, Nat.reduceLeDiff, Nat.reduceEqDiff, Int.reduceToNat, Int.reduceLE, Int.reduceLT, Int.reduceAdd, Int.reduceSub, Int.reduceNeg, Int.reduceBEq, Int.reduceBNe, Nat.reduceBNe, Nat.reduceDiv, Nat.reduceMod]
    subst hk1
    refine kont_weak_code (Weak.freeze rfl 3 rfl rfl (fun i hi => by simp only [go_sem, Nat.reduceAdd, Nat.reduceSub, Nat.reduceMul, Nat.reduceBEq, Nat.reduceLT, Nat.reduceLeDiff, Nat.reduceEqDiff, Int.reduceToNat, Int.reduceLE, Int.reduceLT, Int.reduceAdd, Int.reduceSub, Int.reduceNeg, Int.reduceBEq, Int.reduceBNe, Nat.reduceBNe, Nat.reduceDiv, Nat.reduceMod])) ?_
    simp only [go_sem, Nat.reduceAdd, Nat.reduceSub, Nat.reduceMul, Nat.reduceBEq, Nat.reduceLT, Nat.reduceLeDiff, Nat.reduceEqDiff, Int.reduceToNat, Int.reduceLE, Int.reduceLT, Int.reduceAdd, Int.reduceSub, Int.reduceNeg, Int.reduceBEq, Int.reduceBNe, Nat.reduceBNe, Nat.reduceDiv, Nat.reduceMod]
    refine kont_weak_code (Weak.freeze rfl 4 rfl rfl (fun i hi => by simp only [go_sem, Nat.reduceAdd, Nat.reduceSub, Nat.reduceMul, Nat.reduceBEq, Nat.reduceLT, Nat.reduceLeDiff, Nat.reduceEqDiff, Int.reduceToNat, Int.reduceLE, Int.reduceLT, Int.reduceAdd, Int.reduceSub, Int.reduceNeg, Int.reduceBEq, Int.reduceBNe, Nat.reduceBNe, Nat.reduceDiv, Nat.reduceMod])) ?_
    simp only [go_sem, Nat.reduceAdd, Nat.reduceSub, Nat.reduceMul, Nat.reduceBEq, Nat.reduceLT, Nat.reduceLeDiff, Nat.reduceEqDiff, Int.reduceToNat, Int.reduceLE, Int.reduceLT, Int.reduceAdd, Int.reduceSub, Int.reduceNeg, Int.reduceBEq, Int.reduceBNe, Nat.reduceBNe, Nat.reduceDiv, Nat.reduceMod]
    refine kont_of_hx cx_ok hb 200 ?_
    simp only [go_sem, Nat.reduceAdd, Nat.reduceSub, Nat.reduceMul, Nat.reduceBEq, Nat.reduceLT, Nat.reduceLeDiff, Nat.reduceEqDiff, Int.reduceToNat, Int.reduceLE, Int.reduceLT, Int.reduceAdd, Int.reduceSub, Int.reduceNeg, Int.reduceBEq, Int.reduceBNe, Nat.reduceBNe, Nat.reduceDiv, Nat.reduceMod]
    rfl
end Go.Fg.X
