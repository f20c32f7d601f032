/- Walks of the functions that the statement reaches. No conditions: contracts and laws. -/
import Derived.Test.YtoenkapnfbcjeaaXM2
namespace Go.Fg.X
open Go.Proofs Go.Fg
set_option maxRecDepth 100000
set_option maxHeartbeats 4000000
set_option linter.unusedSimpArgs false
set_option linter.unusedVariables false
def sumL (L : List Nat) : Nat := L.foldl (· + ·) 0
def lowL (L : List Nat) : Nat := L.foldl min 9223372036854775808
theorem sumNil : sumL [] = 0 := rfl
theorem lowNil : lowL [] = 9223372036854775808 := by simp only [lowL, List.foldl_nil]
theorem sumL_snoc (L : List Nat) (x : Nat) : sumL (L ++ [x]) = sumL L + x := by simp [sumL]
theorem foldl_snoc (f : Nat → Nat → Nat) (a : Nat) (L : List Nat) (x : Nat) : (L ++ [x]).foldl f a = f (L.foldl f a) x := by rw [List.foldl_append]; rfl
theorem lowL_snoc (L : List Nat) (x : Nat) : lowL (L ++ [x]) = min (lowL L) x := foldl_snoc min _ L x
theorem sumL_le (L : List Nat) (h : ∀ x ∈ L, x ≤ 4294967295) : ∀ k, k ≤ L.length → sumL (L.take k) ≤ k * 4294967295
  | 0, _ => by rw [List.take_zero, sumNil]; exact Nat.zero_le _
  | k + 1, hk => by
    have ih := sumL_le L h k (by omega)
    rw [take_snocN L k (by omega), sumL_snoc]
    have : L.getD k default ≤ 4294967295 := by
      rw [List.getD_eq_getElem?_getD, List.getElem?_eq_getElem (by omega)]; exact h _ (List.getElem_mem _)
    omega
theorem total_ok (L : List Nat) (hL : L.length ≤ 64) (h : ∀ x ∈ L, x ≤ 4294967295) : AFn Try.prog 92 [us L] (Ret (.tup [u64 (sumL L), u64 (lowL L)])) := by
  have c63 : ((9223372036854775808 : Nat) : Int) = 9223372036854775808 := by omega
  refine AFn_hxk 0 cx_ok 200 Try.func92 rfl Try.ntmps92 Try.results92 rfl fun base w hb => ?_
  simp only [go_sem, Nat.reduceAdd, Nat.reduceSub, Nat.reduceMul, Nat.reduceBEq, Nat.reduceLT, Nat.reduceLeDiff, Nat.reduceEqDiff, Int.reduceToNat, Int.reduceLE, Int.reduceLT, Int.reduceAdd, Int.reduceSub, Int.reduceNeg, Int.reduceBEq, Int.reduceBNe, Nat.reduceBNe, Nat.reduceDiv, Nat.reduceMod]
  refine kont_forF (G := Nat) [8, 9] (fun k => True) (fun k γ => [(4, u64 (sumL (L.take k))), (5, u64 (lowL (L.take k))), (10, dint k)]) (fun k γ => []) (L.length) (0) rfl (Weak.to 0 (by (simp only [go_sem, Nat.reduceAdd, Nat.reduceSub, Nat.reduceMul, Nat.reduceBEq, Nat.reduceLT, Nat.reduceLeDiff, Nat.reduceEqDiff, Int.reduceToNat, Int.reduceLE, Int.reduceLT, Int.reduceAdd, Int.reduceSub, Int.reduceNeg, Int.reduceBEq, Int.reduceBNe, Nat.reduceBNe, Nat.reduceDiv, Nat.reduceMod, sumNil, lowNil, ci0, c63]) <;> simp)) trivial ?_
  intro k γ hk _
  refine kont_of_hx cx_ok hb 200 ?_
  simp only [go_sem, Nat.reduceAdd, Nat.reduceSub, Nat.reduceMul, Nat.reduceBEq, Nat.reduceLT, Nat.reduceLeDiff, Nat.reduceEqDiff, Int.reduceToNat, Int.reduceLE, Int.reduceLT, Int.reduceAdd, Int.reduceSub, Int.reduceNeg, Int.reduceBEq, Int.reduceBNe, Nat.reduceBNe, Nat.reduceDiv, Nat.reduceMod]
  have hwr := wrap_succ (show k < 4611686018427387904 by omega)
  first | refine hite_lt hk (fun hk1 => ?_) (fun hk1 => ?_) | refine hite_ltI hk (fun hk1 => ?_) (fun hk1 => ?_)
  · have e1 : sumL (L.take (k + 1)) = sumL (L.take k) + L.getD k default := by rw [take_snocN L k hk1, sumL_snoc]
    have e2 : lowL (L.take (k + 1)) = min (lowL (L.take k)) (L.getD k default) := by rw [take_snocN L k hk1, lowL_snoc]
    have e3 := sumL_le L h (k + 1) hk1
    have w1 := wu_add' (sumL (L.take k)) (L.getD k default) (by omega)
    have e4 : min ((lowL (L.take k) : Nat) : Int) ((L.getD k default : Nat) : Int) = ((min (lowL (L.take k)) (L.getD k default) : Nat) : Int) := by omega
    simp only [go_sem, Nat.reduceAdd, Nat.reduceSub, Nat.reduceMul, Nat.reduceBEq, Nat.reduceLT, Nat.reduceLeDiff, Nat.reduceEqDiff, Int.reduceToNat, Int.reduceLE, Int.reduceLT, Int.reduceAdd, Int.reduceSub, Int.reduceNeg, Int.reduceBEq, Int.reduceBNe, Nat.reduceBNe, Nat.reduceDiv, Nat.reduceMod, hk1, w1, e4]
    repeat (refine And.intro (by first | assumption | omega) ?_)
    refine ⟨_, Weak.to 0 (by (simp only [go_sem, Nat.reduceAdd, Nat.reduceSub, Nat.reduceMul, Nat.reduceBEq, Nat.reduceLT, Nat.reduceLeDiff, Nat.reduceEqDiff, Int.reduceToNat, Int.reduceLE, Int.reduceLT, Int.reduceAdd, Int.reduceSub, Int.reduceNeg, Int.reduceBEq, Int.reduceBNe, Nat.reduceBNe, Nat.reduceDiv, Nat.reduceMod, hwr, e1, e2]) <;> simp), ForS.mk (γ) (trivial)⟩
  · simp only [go_sem, Nat.reduceAdd, Nat.reduceSub, Nat.reduceMul, Nat.reduceBEq, Nat.reduceLT, Nat.reduceLeDiff, Nat.reduceEqDiff, Int.reduceToNat, Int.reduceLE, Int.reduceLT, Int.reduceAdd, Int.reduceSub, Int.reduceNeg, Int.reduceBEq, Int.reduceBNe, Nat.reduceBNe, Nat.reduceDiv, Nat.reduceMod]
    subst hk1
    refine kont_of_hx cx_ok hb 200 ?_
    simp only [go_sem, Nat.reduceAdd, Nat.reduceSub, Nat.reduceMul, Nat.reduceBEq, Nat.reduceLT, Nat.reduceLeDiff, Nat.reduceEqDiff, Int.reduceToNat, Int.reduceLE, Int.reduceLT, Int.reduceAdd, Int.reduceSub, Int.reduceNeg, Int.reduceBEq, Int.reduceBNe, Nat.reduceBNe, Nat.reduceDiv, Nat.reduceMod]
    rw [List.take_length]
end Go.Fg.X
