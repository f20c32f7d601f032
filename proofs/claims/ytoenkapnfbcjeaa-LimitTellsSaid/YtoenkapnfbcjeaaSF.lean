/- Walks of the functions that the statement reaches. No conditions: contracts and laws. -/
import Derived.Test.YtoenkapnfbcjeaaSD
namespace Go.Fg.X.SP
open Go.Proofs Go.Fg
set_option maxRecDepth 100000
set_option linter.unusedSimpArgs false
set_option linter.unusedVariables false
theorem kord (n : Nat) (f : Nat → Bool) : (List.range n).map (fun i => (i, f i)) = (List.range n).map (fun i => (i, f i)) := rfl
def isOpenAt (lv : List Int) (l : List Ev) (i : Nat) : Nat → Sp
  | 0 => ⟨(l.getD i default).at_, 0, i, 0, true⟩
  | k + 1 => if i < k ∧ (isOpenAt lv l i k).opn = true ∧ lenAt lv l (k + 1) = 0 then ⟨(l.getD i default).at_, (l.getD k default).at_, i, k, false⟩ else isOpenAt lv l i k
def rfAt (lv : List Int) (l : List Ev) : Nat → List Sp
  | 0 => []
  | i + 1 => if 0 < lenAt lv l i ∨ lenAt lv l (i + 1) = 0 then rfAt lv l i else rfAt lv l i ++ [isOpenAt lv l i l.length]
theorem rfAt_len (lv : List Int) (l : List Ev) : ∀ k, (rfAt lv l k).length ≤ k
  | 0 => Nat.le_refl _
  | k + 1 => by have := rfAt_len lv l k; simp only [rfAt]; split <;> simp <;> omega
theorem rof_ok (l : List Ev) (lv : List Int) (hl : l.length < 2147483648) (hv : lv.length < 2147483648) : AFn Try.prog 57 [evs l, ints lv] (RetL 5 Sp.cells (rfAt lv l l.length)) := by
  refine AFn_hxs [1] rfl cx_ok 200 Try.func57 rfl Try.ntmps57 Try.results57 rfl fun base w hb => ?_
  simp only [go_sem, Nat.reduceAdd, Nat.reduceSub, Nat.reduceMul, Nat.reduceBEq, Nat.reduceLT, Nat.reduceLeDiff, Nat.reduceEqDiff, Int.reduceToNat, Int.reduceLE, Int.reduceLT, Int.reduceAdd, Int.reduceSub, Int.reduceNeg, Int.reduceBEq, Int.reduceBNe, Nat.reduceBNe, Nat.reduceDiv, Nat.reduceMod]
  refine kont_call hb fn116 rfl ?_ (lengths_ok l lv hl hv) (RetL.flat fun x => rfl) rfl fun d h hR => ?_
  · simp only [go_sem, Nat.reduceAdd, Nat.reduceSub, Nat.reduceMul, Nat.reduceBEq, Nat.reduceLT, Nat.reduceLeDiff, Nat.reduceEqDiff, Int.reduceToNat, Int.reduceLE, Int.reduceLT, Int.reduceAdd, Int.reduceSub, Int.reduceNeg, Int.reduceBEq, Int.reduceBNe, Nat.reduceBNe, Nat.reduceDiv, Nat.reduceMod]
  obtain ⟨g0, rfl, rfl⟩ := hR
  refine kont_of_hx cx_ok hb 200 ?_
  simp only [go_sem, Nat.reduceAdd, Nat.reduceSub, Nat.reduceMul, Nat.reduceBEq, Nat.reduceLT, Nat.reduceLeDiff, Nat.reduceEqDiff, Int.reduceToNat, Int.reduceLE, Int.reduceLT, Int.reduceAdd, Int.reduceSub, Int.reduceNeg, Int.reduceBEq, Int.reduceBNe, Nat.reduceBNe, Nat.reduceDiv, Nat.reduceMod]
  rw [lens_len]
  refine kont_for (fun k s => ∃ g, s = ⟨[(0, evs l), (5, .ref 0 g0 0 (l.length + 1)), (6, .ref 1 g 0 (rfAt lv l k).length), (14, evs l), (15, dint l.length), (16, dint k)], [⟨.arr, g0, 1, l.length + 1, fun i => i64c ((lens lv l l.length).getD i default)⟩, ⟨.arr, g, 5, (rfAt lv l k).length, fun i => ((rfAt lv l k).getD i default).cells⟩]⟩) l.length
    (s0 := ⟨[(0, evs l), (5, .ref 0 g0 0 (l.length + 1)), (6, .ref 1 0 0 0), (14, evs l), (15, dint l.length), (16, dint 0)], [⟨.arr, g0, 1, l.length + 1, fun i => i64c ((lens lv l l.length).getD i default)⟩, ⟨.arr, 0, 5, 0, fun i => (([] : List Sp).getD i default).cells⟩]⟩)
    (Weak.trans (Weak.phantom 6 5 (fun i => (([] : List Sp).getD i default).cells) rfl) (Weak.to 2 (by (simp only [go_sem, Nat.reduceAdd, Nat.reduceSub, Nat.reduceMul, Nat.reduceBEq, Nat.reduceLT, Nat.reduceLeDiff, Nat.reduceEqDiff, Int.reduceToNat, Int.reduceLE, Int.reduceLT, Int.reduceAdd, Int.reduceSub, Int.reduceNeg, Int.reduceBEq, Int.reduceBNe, Nat.reduceBNe, Nat.reduceDiv, Nat.reduceMod]) <;> simp))) ⟨0, rfl⟩ ?_
  rintro i s hi ⟨g, rfl⟩
  refine kont_of_hx cx_ok hb 200 ?_
  simp only [go_sem, Nat.reduceAdd, Nat.reduceSub, Nat.reduceMul, Nat.reduceBEq, Nat.reduceLT, Nat.reduceLeDiff, Nat.reduceEqDiff, Int.reduceToNat, Int.reduceLE, Int.reduceLT, Int.reduceAdd, Int.reduceSub, Int.reduceNeg, Int.reduceBEq, Int.reduceBNe, Nat.reduceBNe, Nat.reduceDiv, Nat.reduceMod]
  have hwr := wrap_succ (show i < 4611686018427387904 by omega)
  have hlen := rfAt_len lv l i
  refine hite_intro (fun h => ?_) (fun h => ?_)
  · have hi1 : i < l.length := by simpa using h
    have hi2 : i < l.length + 1 := by omega
    have hi3 : i + 1 < l.length + 1 := by omega
    have n1 : (lens lv l l.length).getD i default = (lenAt lv l i : Int) := lens_get lv l _ i hi2
    have n2 : (lens lv l l.length).getD (i + 1) default = (lenAt lv l (i + 1) : Int) := lens_get lv l _ _ hi3
    by_cases hn : lenAt lv l i = 0
    case neg =>
      have e1 : rfAt lv l (i + 1) = rfAt lv l i := by simp only [rfAt]; rw [if_pos (by omega)]
      simp only [go_sem, Nat.reduceAdd, Nat.reduceSub, Nat.reduceMul, Nat.reduceBEq, Nat.reduceLT, Nat.reduceLeDiff, Nat.reduceEqDiff, Int.reduceToNat, Int.reduceLE, Int.reduceLT, Int.reduceAdd, Int.reduceSub, Int.reduceNeg, Int.reduceBEq, Int.reduceBNe, Nat.reduceBNe, Nat.reduceDiv, Nat.reduceMod, hi1, hi2, n1, dp hn]
      repeat (refine And.intro (by first | assumption | omega) ?_)
      exact ⟨_, Weak.to 2 (by (simp only [go_sem, Nat.reduceAdd, Nat.reduceSub, Nat.reduceMul, Nat.reduceBEq, Nat.reduceLT, Nat.reduceLeDiff, Nat.reduceEqDiff, Int.reduceToNat, Int.reduceLE, Int.reduceLT, Int.reduceAdd, Int.reduceSub, Int.reduceNeg, Int.reduceBEq, Int.reduceBNe, Nat.reduceBNe, Nat.reduceDiv, Nat.reduceMod, hwr, e1]) <;> simp), g, rfl⟩
    by_cases hm : lenAt lv l (i + 1) = 0
    case pos =>
      have e1 : rfAt lv l (i + 1) = rfAt lv l i := by simp only [rfAt]; rw [if_pos (by omega)]
      simp only [go_sem, Nat.reduceAdd, Nat.reduceSub, Nat.reduceMul, Nat.reduceBEq, Nat.reduceLT, Nat.reduceLeDiff, Nat.reduceEqDiff, Int.reduceToNat, Int.reduceLE, Int.reduceLT, Int.reduceAdd, Int.reduceSub, Int.reduceNeg, Int.reduceBEq, Int.reduceBNe, Nat.reduceBNe, Nat.reduceDiv, Nat.reduceMod, hi1, hi2, hi3, n1, n2, hwr, dnp hn, bz hm]
      repeat (refine And.intro (by first | assumption | omega) ?_)
      exact ⟨_, Weak.to 2 (by (simp only [go_sem, Nat.reduceAdd, Nat.reduceSub, Nat.reduceMul, Nat.reduceBEq, Nat.reduceLT, Nat.reduceLeDiff, Nat.reduceEqDiff, Int.reduceToNat, Int.reduceLE, Int.reduceLT, Int.reduceAdd, Int.reduceSub, Int.reduceNeg, Int.reduceBEq, Int.reduceBNe, Nat.reduceBNe, Nat.reduceDiv, Nat.reduceMod, hwr, e1]) <;> simp), g, rfl⟩
    have e1 : rfAt lv l (i + 1) = rfAt lv l i ++ [isOpenAt lv l i l.length] := by simp only [rfAt]; rw [if_neg (by omega)]
    simp only [go_sem, Nat.reduceAdd, Nat.reduceSub, Nat.reduceMul, Nat.reduceBEq, Nat.reduceLT, Nat.reduceLeDiff, Nat.reduceEqDiff, Int.reduceToNat, Int.reduceLE, Int.reduceLT, Int.reduceAdd, Int.reduceSub, Int.reduceNeg, Int.reduceBEq, Int.reduceBNe, Nat.reduceBNe, Nat.reduceDiv, Nat.reduceMod, hi1, hi2, hi3, n1, n2, hwr, dnp hn, bnz hm]
    refine kont_for (fun j s => s = ⟨[(0, evs l), (5, .ref 0 g0 0 (l.length + 1)), (6, .ref 1 g 0 (rfAt lv l i).length), (7, dint i), (8, .ptr 2 0 0 0), (9, .ptr 3 0 0 0), (14, evs l), (15, dint l.length), (16, dint i), (39, dint l.length), (40, dint j)], [⟨.arr, g0, 1, l.length + 1, fun i => i64c ((lens lv l l.length).getD i default)⟩, ⟨.arr, g, 5, (rfAt lv l i).length, fun k => ((rfAt lv l i).getD k default).cells⟩, ⟨.one, 0, 12, 1, fun _ => (l.getD i default).cells⟩, ⟨.one, 0, 5, 1, fun _ => (isOpenAt lv l i j).cells⟩]⟩) l.length
      (s0 := ⟨[(0, evs l), (5, .ref 0 g0 0 (l.length + 1)), (6, .ref 1 g 0 (rfAt lv l i).length), (7, dint i), (8, .ptr 2 0 0 0), (9, .ptr 3 0 0 0), (14, evs l), (15, dint l.length), (16, dint i), (39, dint l.length), (40, dint 0)], [⟨.arr, g0, 1, l.length + 1, fun i => i64c ((lens lv l l.length).getD i default)⟩, ⟨.arr, g, 5, (rfAt lv l i).length, fun k => ((rfAt lv l i).getD k default).cells⟩, ⟨.one, 0, 12, 1, fun _ => (l.getD i default).cells⟩, ⟨.one, 0, 5, 1, fun _ => (isOpenAt lv l i 0).cells⟩]⟩)
      (Weak.to 4 (by (simp only [go_sem, Nat.reduceAdd, Nat.reduceSub, Nat.reduceMul, Nat.reduceBEq, Nat.reduceLT, Nat.reduceLeDiff, Nat.reduceEqDiff, Int.reduceToNat, Int.reduceLE, Int.reduceLT, Int.reduceAdd, Int.reduceSub, Int.reduceNeg, Int.reduceBEq, Int.reduceBNe, Nat.reduceBNe, Nat.reduceDiv, Nat.reduceMod, isOpenAt]) <;> simp)) rfl ?_
    rintro j s hj rfl
    refine kont_of_hx cx_ok hb 200 ?_
    simp only [go_sem, Nat.reduceAdd, Nat.reduceSub, Nat.reduceMul, Nat.reduceBEq, Nat.reduceLT, Nat.reduceLeDiff, Nat.reduceEqDiff, Int.reduceToNat, Int.reduceLE, Int.reduceLT, Int.reduceAdd, Int.reduceSub, Int.reduceNeg, Int.reduceBEq, Int.reduceBNe, Nat.reduceBNe, Nat.reduceDiv, Nat.reduceMod]
    refine hite_intro (fun h2 => ?_) (fun h2 => ?_)
    · have hj1 : j < l.length := by simpa using h2
      have hj3 : j + 1 < l.length + 1 := by omega
      have hwj := wrap_succ (show j < 4611686018427387904 by omega)
      have n3 : (lens lv l l.length).getD (j + 1) default = (lenAt lv l (j + 1) : Int) := lens_get lv l _ _ hj3
      by_cases c1 : i < j
      case neg =>
        have e2 : isOpenAt lv l i (j + 1) = isOpenAt lv l i j := by simp only [isOpenAt]; rw [if_neg (fun x => c1 x.1)]
        have d1 : decide (i < j) = false := by simp [c1]
        simp only [go_sem, Nat.reduceAdd, Nat.reduceSub, Nat.reduceMul, Nat.reduceBEq, Nat.reduceLT, Nat.reduceLeDiff, Nat.reduceEqDiff, Int.reduceToNat, Int.reduceLE, Int.reduceLT, Int.reduceAdd, Int.reduceSub, Int.reduceNeg, Int.reduceBEq, Int.reduceBNe, Nat.reduceBNe, Nat.reduceDiv, Nat.reduceMod, d1]
        repeat (refine And.intro (by first | assumption | omega) ?_)
        exact ⟨_, Weak.to 4 (by (simp only [go_sem, Nat.reduceAdd, Nat.reduceSub, Nat.reduceMul, Nat.reduceBEq, Nat.reduceLT, Nat.reduceLeDiff, Nat.reduceEqDiff, Int.reduceToNat, Int.reduceLE, Int.reduceLT, Int.reduceAdd, Int.reduceSub, Int.reduceNeg, Int.reduceBEq, Int.reduceBNe, Nat.reduceBNe, Nat.reduceDiv, Nat.reduceMod, hwj, e2]) <;> simp), rfl⟩
      have d1 : decide (i < j) = true := by simp [c1]
      cases c2 : (isOpenAt lv l i j).opn
      case false =>
        have e2 : isOpenAt lv l i (j + 1) = isOpenAt lv l i j := by simp only [isOpenAt]; rw [if_neg (fun x => by rw [c2] at x; cases x.2.1)]
        simp only [go_sem, Nat.reduceAdd, Nat.reduceSub, Nat.reduceMul, Nat.reduceBEq, Nat.reduceLT, Nat.reduceLeDiff, Nat.reduceEqDiff, Int.reduceToNat, Int.reduceLE, Int.reduceLT, Int.reduceAdd, Int.reduceSub, Int.reduceNeg, Int.reduceBEq, Int.reduceBNe, Nat.reduceBNe, Nat.reduceDiv, Nat.reduceMod, d1, c2]
        repeat (refine And.intro (by first | assumption | omega) ?_)
        exact ⟨_, Weak.to 4 (by (simp only [go_sem, Nat.reduceAdd, Nat.reduceSub, Nat.reduceMul, Nat.reduceBEq, Nat.reduceLT, Nat.reduceLeDiff, Nat.reduceEqDiff, Int.reduceToNat, Int.reduceLE, Int.reduceLT, Int.reduceAdd, Int.reduceSub, Int.reduceNeg, Int.reduceBEq, Int.reduceBNe, Nat.reduceBNe, Nat.reduceDiv, Nat.reduceMod, hwj, e2, c2]) <;> simp), rfl⟩
      by_cases c3 : lenAt lv l (j + 1) = 0
      case neg =>
        have e2 : isOpenAt lv l i (j + 1) = isOpenAt lv l i j := by simp only [isOpenAt]; rw [if_neg (fun x => c3 x.2.2)]
        simp only [go_sem, Nat.reduceAdd, Nat.reduceSub, Nat.reduceMul, Nat.reduceBEq, Nat.reduceLT, Nat.reduceLeDiff, Nat.reduceEqDiff, Int.reduceToNat, Int.reduceLE, Int.reduceLT, Int.reduceAdd, Int.reduceSub, Int.reduceNeg, Int.reduceBEq, Int.reduceBNe, Nat.reduceBNe, Nat.reduceDiv, Nat.reduceMod, d1, c2, hj3, n3, hwj, bnz c3]
        repeat (refine And.intro (by first | assumption | omega) ?_)
        exact ⟨_, Weak.to 4 (by (simp only [go_sem, Nat.reduceAdd, Nat.reduceSub, Nat.reduceMul, Nat.reduceBEq, Nat.reduceLT, Nat.reduceLeDiff, Nat.reduceEqDiff, Int.reduceToNat, Int.reduceLE, Int.reduceLT, Int.reduceAdd, Int.reduceSub, Int.reduceNeg, Int.reduceBEq, Int.reduceBNe, Nat.reduceBNe, Nat.reduceDiv, Nat.reduceMod, hwj, e2, c2]) <;> simp), rfl⟩
      have e2 : isOpenAt lv l i (j + 1) = ⟨(l.getD i default).at_, (l.getD j default).at_, i, j, false⟩ := by simp only [isOpenAt]; rw [if_pos ⟨c1, c2, c3⟩]
      simp only [go_sem, Nat.reduceAdd, Nat.reduceSub, Nat.reduceMul, Nat.reduceBEq, Nat.reduceLT, Nat.reduceLeDiff, Nat.reduceEqDiff, Int.reduceToNat, Int.reduceLE, Int.reduceLT, Int.reduceAdd, Int.reduceSub, Int.reduceNeg, Int.reduceBEq, Int.reduceBNe, Nat.reduceBNe, Nat.reduceDiv, Nat.reduceMod, d1, c2, hj3, n3, hwj, bz c3]
      refine kont_hax cx_ok hb 200 mixed [(0, true), (1, true), (2, true), (3, true), (4, true), (5, true), (6, true), (7, true), (8, true), (9, true), (10, false)] (by kernel_rfl) (by kernel_rfl) ?_
      simp only [go_sem, Nat.reduceAdd, Nat.reduceSub, Nat.reduceMul, Nat.reduceBEq, Nat.reduceLT, Nat.reduceLeDiff, Nat.reduceEqDiff, Int.reduceToNat, Int.reduceLE, Int.reduceLT, Int.reduceAdd, Int.reduceSub, Int.reduceNeg, Int.reduceBEq, Int.reduceBNe, Nat.reduceBNe, Nat.reduceDiv, Nat.reduceMod, hj1]
      repeat (refine And.intro (by first | assumption | omega) ?_)
      exact ⟨_, Weak.to 4 (by (simp only [go_sem, Nat.reduceAdd, Nat.reduceSub, Nat.reduceMul, Nat.reduceBEq, Nat.reduceLT, Nat.reduceLeDiff, Nat.reduceEqDiff, Int.reduceToNat, Int.reduceLE, Int.reduceLT, Int.reduceAdd, Int.reduceSub, Int.reduceNeg, Int.reduceBEq, Int.reduceBNe, Nat.reduceBNe, Nat.reduceDiv, Nat.reduceMod, hwj, e2]) <;> simp), rfl⟩
    · have hj1 : j = l.length := by simp at h2; omega
      subst hj1
      simp only [go_sem, Nat.reduceAdd, Nat.reduceSub, Nat.reduceMul, Nat.reduceBEq, Nat.reduceLT, Nat.reduceLeDiff, Nat.reduceEqDiff, Int.reduceToNat, Int.reduceLE, Int.reduceLT, Int.reduceAdd, Int.reduceSub, Int.reduceNeg, Int.reduceBEq, Int.reduceBNe, Nat.reduceBNe, Nat.reduceDiv, Nat.reduceMod]
      refine kont_of_hx cx_ok hb 200 ?_
      simp only [go_sem, Nat.reduceAdd, Nat.reduceSub, Nat.reduceMul, Nat.reduceBEq, Nat.reduceLT, Nat.reduceLeDiff, Nat.reduceEqDiff, Int.reduceToNat, Int.reduceLE, Int.reduceLT, Int.reduceAdd, Int.reduceSub, Int.reduceNeg, Int.reduceBEq, Int.reduceBNe, Nat.reduceBNe, Nat.reduceDiv, Nat.reduceMod]
      repeat (refine And.intro (by first | assumption | omega) ?_)
      refine ⟨_, Weak.to 2 ⟨?_, by simp only [go_sem, Nat.reduceAdd, Nat.reduceSub, Nat.reduceMul, Nat.reduceBEq, Nat.reduceLT, Nat.reduceLeDiff, Nat.reduceEqDiff, Int.reduceToNat, Int.reduceLE, Int.reduceLT, Int.reduceAdd, Int.reduceSub, Int.reduceNeg, Int.reduceBEq, Int.reduceBNe, Nat.reduceBNe, Nat.reduceDiv, Nat.reduceMod], (by (simp only [go_sem, Nat.reduceAdd, Nat.reduceSub, Nat.reduceMul, Nat.reduceBEq, Nat.reduceLT, Nat.reduceLeDiff, Nat.reduceEqDiff, Int.reduceToNat, Int.reduceLE, Int.reduceLT, Int.reduceAdd, Int.reduceSub, Int.reduceNeg, Int.reduceBEq, Int.reduceBNe, Nat.reduceBNe, Nat.reduceDiv, Nat.reduceMod]) <;> simp), ?_⟩, g + 1, rfl⟩
      · simp only [go_sem, Nat.reduceAdd, Nat.reduceSub, Nat.reduceMul, Nat.reduceBEq, Nat.reduceLT, Nat.reduceLeDiff, Nat.reduceEqDiff, Int.reduceToNat, Int.reduceLE, Int.reduceLT, Int.reduceAdd, Int.reduceSub, Int.reduceNeg, Int.reduceBEq, Int.reduceBNe, Nat.reduceBNe, Nat.reduceDiv, Nat.reduceMod, hwr, e1, List.length_append]
      · simp only [go_sem, Nat.reduceAdd, Nat.reduceSub, Nat.reduceMul, Nat.reduceBEq, Nat.reduceLT, Nat.reduceLeDiff, Nat.reduceEqDiff, Int.reduceToNat, Int.reduceLE, Int.reduceLT, Int.reduceAdd, Int.reduceSub, Int.reduceNeg, Int.reduceBEq, Int.reduceBNe, Nat.reduceBNe, Nat.reduceDiv, Nat.reduceMod, e1, List.length_append]
        intro k hk
        rw [getD_app _ _ _ _ hk]
        cases decide (k < (rfAt lv l i).length) <;> rfl
  · have hi1 : i = l.length := by simp at h; omega
    simp only [go_sem, Nat.reduceAdd, Nat.reduceSub, Nat.reduceMul, Nat.reduceBEq, Nat.reduceLT, Nat.reduceLeDiff, Nat.reduceEqDiff, Int.reduceToNat, Int.reduceLE, Int.reduceLT, Int.reduceAdd, Int.reduceSub, Int.reduceNeg, Int.reduceBEq, Int.reduceBNe, Nat.reduceBNe, Nat.reduceDiv, Nat.reduceMod]
    refine kont_of_hx cx_ok hb 200 ?_
    simp only [go_sem, Nat.reduceAdd, Nat.reduceSub, Nat.reduceMul, Nat.reduceBEq, Nat.reduceLT, Nat.reduceLeDiff, Nat.reduceEqDiff, Int.reduceToNat, Int.reduceLE, Int.reduceLT, Int.reduceAdd, Int.reduceSub, Int.reduceNeg, Int.reduceBEq, Int.reduceBNe, Nat.reduceBNe, Nat.reduceDiv, Nat.reduceMod]
    subst hi1
    exact ⟨g, rfl, rfl⟩
end Go.Fg.X.SP
