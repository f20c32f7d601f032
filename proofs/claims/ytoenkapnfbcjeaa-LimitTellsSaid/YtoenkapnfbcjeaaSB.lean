/- Walks of the functions that the statement reaches. No conditions: contracts and laws. -/
import Derived.Test.YtoenkapnfbcjeaaSA
namespace Go.Fg.X.SP
open Go.Proofs Go.Fg
set_option maxRecDepth 100000
set_option linter.unusedSimpArgs false
set_option linter.unusedVariables false
def fromAt (L : List Sp) (k : Nat) : List Int := (L.take k).map Sp.frm
@[go_sem] def u64c (n : Int) : List D := [.raw (.int .u64 n)]
@[go_sem] def i64c (n : Int) : List D := [.raw (.int .i64 n)]
theorem fromAt_succ (L : List Sp) (k : Nat) (h : k < L.length) : fromAt L (k + 1) = fromAt L k ++ [(L.getD k default).frm] := by
  simp only [fromAt]; rw [getD_take L default k h]; simp
def lens (lv : List Int) (l : List Ev) (k : Nat) : List Int := (List.range (k + 1)).map fun j => (lenAt lv l j : Int)
theorem lens_len (lv : List Int) (l : List Ev) (k : Nat) : (lens lv l k).length = k + 1 := by simp [lens]
theorem lens_succ (lv : List Int) (l : List Ev) (k : Nat) : lens lv l (k + 1) = lens lv l k ++ [(lenAt lv l (k + 1) : Int)] := by simp [lens, List.range_succ]
theorem lens_get (lv : List Int) (l : List Ev) (k i : Nat) (h : i < k + 1) : (lens lv l k).getD i default = (lenAt lv l i : Int) := by simp [lens, List.getD_eq_getElem?_getD, h]
theorem lengths_ok (l : List Ev) (lv : List Int) (hl : l.length < 2147483648) (hv : lv.length < 2147483648) : AFn Try.prog 116 [evs l, ints lv] (RetL 1 i64c (lens lv l l.length)) := by
  refine AFn_hxk 1 cx_ok 200 Try.func116 rfl Try.ntmps116 Try.results116 rfl fun base w hb => ?_
  simp only [go_sem, Nat.reduceAdd, Nat.reduceSub, Nat.reduceMul, Nat.reduceBEq, Nat.reduceLT, Nat.reduceLeDiff, Nat.reduceEqDiff, Int.reduceToNat, Int.reduceLE, Int.reduceLT, Int.reduceAdd, Int.reduceSub, Int.reduceNeg, Int.reduceBEq, Int.reduceBNe, Nat.reduceBNe, Nat.reduceDiv, Nat.reduceMod]
  refine kont_for (fun k s => ∃ g, s = ⟨[(1, ints lv), (5, .ref 0 g 0 (k + 1)), (10, evs l), (11, dint l.length), (12, dint k)], [⟨.arr, g, 1, k + 1, fun i => i64c ((lens lv l k).getD i default)⟩]⟩) l.length
    (s0 := ⟨[(1, ints lv), (5, .ref 0 0 0 1), (10, evs l), (11, dint l.length), (12, dint 0)], [⟨.arr, 0, 1, 0 + 1, fun i => i64c ((lens lv l 0).getD i default)⟩]⟩)
    (Weak.to 1 (by simp only [go_sem, Nat.reduceAdd, Nat.reduceSub, Nat.reduceMul, Nat.reduceBEq, Nat.reduceLT, Nat.reduceLeDiff, Nat.reduceEqDiff, Int.reduceToNat, Int.reduceLE, Int.reduceLT, Int.reduceAdd, Int.reduceSub, Int.reduceNeg, Int.reduceBEq, Int.reduceBNe, Nat.reduceBNe, Nat.reduceDiv, Nat.reduceMod]; simp [lens, lenAt])) ⟨0, rfl⟩ ?_
  rintro k s hk ⟨g, rfl⟩
  have hle := lenAt_le lv l k
  have hwr := wrap_succ (show k < 4611686018427387904 by omega)
  have hwl := wrap_succ (show lenAt lv l k < 4611686018427387904 by omega)
  have hg := lens_get lv l k k (by omega)
  refine kont_of_hx cx_ok hb 200 ?_
  simp only [go_sem, Nat.reduceAdd, Nat.reduceSub, Nat.reduceMul, Nat.reduceBEq, Nat.reduceLT, Nat.reduceLeDiff, Nat.reduceEqDiff, Int.reduceToNat, Int.reduceLE, Int.reduceLT, Int.reduceAdd, Int.reduceSub, Int.reduceNeg, Int.reduceBEq, Int.reduceBNe, Nat.reduceBNe, Nat.reduceDiv, Nat.reduceMod]
  refine hite_intro (fun h => ?_) (fun h => ?_)
  · have hk1 : k < l.length := by simpa using h
    simp only [go_sem, Nat.reduceAdd, Nat.reduceSub, Nat.reduceMul, Nat.reduceBEq, Nat.reduceLT, Nat.reduceLeDiff, Nat.reduceEqDiff, Int.reduceToNat, Int.reduceLE, Int.reduceLT, Int.reduceAdd, Int.reduceSub, Int.reduceNeg, Int.reduceBEq, Int.reduceBNe, Nat.reduceBNe, Nat.reduceDiv, Nat.reduceMod, hk1]
    have hk2 : k < k + 1 := by omega
    have hsub : lenAt lv l k ≠ 0 → IntKind.i64.wrap ((lenAt lv l k : Int) - 1) = ((lenAt lv l k - 1 : Nat) : Int) := fun _ => by rw [wrap64 (by omega) (by omega)]; omega
    have hs := lens_succ lv l k
    cases hc : lv.contains (l.getD k default).cls <;> cases hi : (l.getD k default).inn <;> by_cases hn : lenAt lv l k = 0
    all_goals
      simp only [go_sem, Nat.reduceAdd, Nat.reduceSub, Nat.reduceMul, Nat.reduceBEq, Nat.reduceLT, Nat.reduceLeDiff, Nat.reduceEqDiff, Int.reduceToNat, Int.reduceLE, Int.reduceLT, Int.reduceAdd, Int.reduceSub, Int.reduceNeg, Int.reduceBEq, Int.reduceBNe, Nat.reduceBNe, Nat.reduceDiv, Nat.reduceMod, hk2, hg]
      refine kont_call hb fn114 rfl ?_ (has_ok lv (l.getD k default).cls hv) (Ret.flat rfl) rfl fun d h hR => ?_
      · simp only [go_sem, Nat.reduceAdd, Nat.reduceSub, Nat.reduceMul, Nat.reduceBEq, Nat.reduceLT, Nat.reduceLeDiff, Nat.reduceEqDiff, Int.reduceToNat, Int.reduceLE, Int.reduceLT, Int.reduceAdd, Int.reduceSub, Int.reduceNeg, Int.reduceBEq, Int.reduceBNe, Nat.reduceBNe, Nat.reduceDiv, Nat.reduceMod]
      obtain ⟨rfl, rfl⟩ := hR
      refine kont_of_hx cx_ok hb 200 ?_
      simp only [go_sem, Nat.reduceAdd, Nat.reduceSub, Nat.reduceMul, Nat.reduceBEq, Nat.reduceLT, Nat.reduceLeDiff, Nat.reduceEqDiff, Int.reduceToNat, Int.reduceLE, Int.reduceLT, Int.reduceAdd, Int.reduceSub, Int.reduceNeg, Int.reduceBEq, Int.reduceBNe, Nat.reduceBNe, Nat.reduceDiv, Nat.reduceMod, hc, hi]
      refine kont_call hb fn114 rfl ?_ (has_ok lv (l.getD k default).cls hv) (Ret.flat rfl) rfl fun d h hR => ?_
      · simp only [go_sem, Nat.reduceAdd, Nat.reduceSub, Nat.reduceMul, Nat.reduceBEq, Nat.reduceLT, Nat.reduceLeDiff, Nat.reduceEqDiff, Int.reduceToNat, Int.reduceLE, Int.reduceLT, Int.reduceAdd, Int.reduceSub, Int.reduceNeg, Int.reduceBEq, Int.reduceBNe, Nat.reduceBNe, Nat.reduceDiv, Nat.reduceMod]
      obtain ⟨rfl, rfl⟩ := hR
      refine kont_of_hx cx_ok hb 200 ?_
      first
        | simp only [go_sem, Nat.reduceAdd, Nat.reduceSub, Nat.reduceMul, Nat.reduceBEq, Nat.reduceLT, Nat.reduceLeDiff, Nat.reduceEqDiff, Int.reduceToNat, Int.reduceLE, Int.reduceLT, Int.reduceAdd, Int.reduceSub, Int.reduceNeg, Int.reduceBEq, Int.reduceBNe, Nat.reduceBNe, Nat.reduceDiv, Nat.reduceMod, hc, hi, dp hn, hwl, hsub hn]
        | simp only [go_sem, Nat.reduceAdd, Nat.reduceSub, Nat.reduceMul, Nat.reduceBEq, Nat.reduceLT, Nat.reduceLeDiff, Nat.reduceEqDiff, Int.reduceToNat, Int.reduceLE, Int.reduceLT, Int.reduceAdd, Int.reduceSub, Int.reduceNeg, Int.reduceBEq, Int.reduceBNe, Nat.reduceBNe, Nat.reduceDiv, Nat.reduceMod, hc, hi, dnp hn, hwl]
      refine ⟨by omega, hk1, _, Weak.to 1 ⟨?_, by simp only [go_sem, Nat.reduceAdd, Nat.reduceSub, Nat.reduceMul, Nat.reduceBEq, Nat.reduceLT, Nat.reduceLeDiff, Nat.reduceEqDiff, Int.reduceToNat, Int.reduceLE, Int.reduceLT, Int.reduceAdd, Int.reduceSub, Int.reduceNeg, Int.reduceBEq, Int.reduceBNe, Nat.reduceBNe, Nat.reduceDiv, Nat.reduceMod], by simp only [go_sem, Nat.reduceAdd, Nat.reduceSub, Nat.reduceMul, Nat.reduceBEq, Nat.reduceLT, Nat.reduceLeDiff, Nat.reduceEqDiff, Int.reduceToNat, Int.reduceLE, Int.reduceLT, Int.reduceAdd, Int.reduceSub, Int.reduceNeg, Int.reduceBEq, Int.reduceBNe, Nat.reduceBNe, Nat.reduceDiv, Nat.reduceMod], ?_⟩, g + 1, rfl⟩
      · simp only [go_sem, Nat.reduceAdd, Nat.reduceSub, Nat.reduceMul, Nat.reduceBEq, Nat.reduceLT, Nat.reduceLeDiff, Nat.reduceEqDiff, Int.reduceToNat, Int.reduceLE, Int.reduceLT, Int.reduceAdd, Int.reduceSub, Int.reduceNeg, Int.reduceBEq, Int.reduceBNe, Nat.reduceBNe, Nat.reduceDiv, Nat.reduceMod, hwr]
      · simp only [go_sem, Nat.reduceAdd, Nat.reduceSub, Nat.reduceMul, Nat.reduceBEq, Nat.reduceLT, Nat.reduceLeDiff, Nat.reduceEqDiff, Int.reduceToNat, Int.reduceLE, Int.reduceLT, Int.reduceAdd, Int.reduceSub, Int.reduceNeg, Int.reduceBEq, Int.reduceBNe, Nat.reduceBNe, Nat.reduceDiv, Nat.reduceMod, hs]
        intro i hi2
        rw [getD_app _ _ _ _ (by rw [lens_len]; exact hi2), lens_len]
        cases decide (i < k + 1)
        · simp only [lenAt, lenN, hc, hi, hn]; first | rfl | simp [hn]
        · rfl
  · have hk1 : k = l.length := by simp at h; omega
    simp only [go_sem, Nat.reduceAdd, Nat.reduceSub, Nat.reduceMul, Nat.reduceBEq, Nat.reduceLT, Nat.reduceLeDiff, Nat.reduceEqDiff, Int.reduceToNat, Int.reduceLE, Int.reduceLT, Int.reduceAdd, Int.reduceSub, Int.reduceNeg, Int.reduceBEq, Int.reduceBNe, Nat.reduceBNe, Nat.reduceDiv, Nat.reduceMod]
    refine kont_of_hx cx_ok hb 200 ?_
    simp only [go_sem, Nat.reduceAdd, Nat.reduceSub, Nat.reduceMul, Nat.reduceBEq, Nat.reduceLT, Nat.reduceLeDiff, Nat.reduceEqDiff, Int.reduceToNat, Int.reduceLE, Int.reduceLT, Int.reduceAdd, Int.reduceSub, Int.reduceNeg, Int.reduceBEq, Int.reduceBNe, Nat.reduceBNe, Nat.reduceDiv, Nat.reduceMod]
    subst hk1
    exact ⟨g, by rw [lens_len], by rw [lens_len]; rfl⟩
end Go.Fg.X.SP
