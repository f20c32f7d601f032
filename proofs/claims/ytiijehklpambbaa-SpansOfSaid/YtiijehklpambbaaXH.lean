/- Walks of the functions that the statement reaches. No conditions: contracts and laws. -/
import Derived.Test.YtiijehklpambbaaXG
namespace Go.Fg.X
open Go.Proofs Go.Fg
set_option maxRecDepth 100000
set_option linter.unusedSimpArgs false
set_option linter.unusedVariables false
theorem spansOf_ok (l : List Ev) (lv : List Int) : AFn Try.prog 4 [evs l, ints lv] (Ret (dbool true)) := by
  refine AFn_hxk 0 cx_ok 200 Try.func4 rfl Try.ntmps4 Try.results4 rfl fun base w pl hb => ?_
  simp only [go_sem, Nat.reduceAdd, Nat.reduceSub, Nat.reduceMul, Nat.reduceBEq, Nat.reduceLT, Nat.reduceLeDiff, Nat.reduceEqDiff, Int.reduceToNat, Int.reduceLE, Int.reduceLT, Int.reduceAdd, Int.reduceSub, Int.reduceNeg, Int.reduceBEq, Int.reduceBNe, Nat.reduceBNe, Nat.reduceDiv, Nat.reduceMod]
  by_cases h1 : decide ((200 : Int) < l.length) = true
  · simp only [go_sem, Nat.reduceAdd, Nat.reduceSub, Nat.reduceMul, Nat.reduceBEq, Nat.reduceLT, Nat.reduceLeDiff, Nat.reduceEqDiff, Int.reduceToNat, Int.reduceLE, Int.reduceLT, Int.reduceAdd, Int.reduceSub, Int.reduceNeg, Int.reduceBEq, Int.reduceBNe, Nat.reduceBNe, Nat.reduceDiv, Nat.reduceMod, h1]
    refine kont_call hb fn15 rfl ?_ two_ok (Ret.flat rfl) rfl fun d h hR => ?_
    · simp only [go_sem, Nat.reduceAdd, Nat.reduceSub, Nat.reduceMul, Nat.reduceBEq, Nat.reduceLT, Nat.reduceLeDiff, Nat.reduceEqDiff, Int.reduceToNat, Int.reduceLE, Int.reduceLT, Int.reduceAdd, Int.reduceSub, Int.reduceNeg, Int.reduceBEq, Int.reduceBNe, Nat.reduceBNe, Nat.reduceDiv, Nat.reduceMod]
    obtain ⟨rfl, rfl⟩ := hR
    refine kont_of_hx cx_ok hb 200 ?_
    simp only [go_sem, Nat.reduceAdd, Nat.reduceSub, Nat.reduceMul, Nat.reduceBEq, Nat.reduceLT, Nat.reduceLeDiff, Nat.reduceEqDiff, Int.reduceToNat, Int.reduceLE, Int.reduceLT, Int.reduceAdd, Int.reduceSub, Int.reduceNeg, Int.reduceBEq, Int.reduceBNe, Nat.reduceBNe, Nat.reduceDiv, Nat.reduceMod]
  by_cases h2 : decide ((100 : Int) < lv.length) = true
  · simp only [go_sem, Nat.reduceAdd, Nat.reduceSub, Nat.reduceMul, Nat.reduceBEq, Nat.reduceLT, Nat.reduceLeDiff, Nat.reduceEqDiff, Int.reduceToNat, Int.reduceLE, Int.reduceLT, Int.reduceAdd, Int.reduceSub, Int.reduceNeg, Int.reduceBEq, Int.reduceBNe, Nat.reduceBNe, Nat.reduceDiv, Nat.reduceMod, h1, h2]
    refine kont_call hb fn15 rfl ?_ two_ok (Ret.flat rfl) rfl fun d h hR => ?_
    · simp only [go_sem, Nat.reduceAdd, Nat.reduceSub, Nat.reduceMul, Nat.reduceBEq, Nat.reduceLT, Nat.reduceLeDiff, Nat.reduceEqDiff, Int.reduceToNat, Int.reduceLE, Int.reduceLT, Int.reduceAdd, Int.reduceSub, Int.reduceNeg, Int.reduceBEq, Int.reduceBNe, Nat.reduceBNe, Nat.reduceDiv, Nat.reduceMod]
    obtain ⟨rfl, rfl⟩ := hR
    refine kont_of_hx cx_ok hb 200 ?_
    simp only [go_sem, Nat.reduceAdd, Nat.reduceSub, Nat.reduceMul, Nat.reduceBEq, Nat.reduceLT, Nat.reduceLeDiff, Nat.reduceEqDiff, Int.reduceToNat, Int.reduceLE, Int.reduceLT, Int.reduceAdd, Int.reduceSub, Int.reduceNeg, Int.reduceBEq, Int.reduceBNe, Nat.reduceBNe, Nat.reduceDiv, Nat.reduceMod]
  have hl : l.length < 2147483648 := by simp at h1; omega
  have hv : lv.length < 2147483648 := by simp at h2; omega
  simp only [go_sem, Nat.reduceAdd, Nat.reduceSub, Nat.reduceMul, Nat.reduceBEq, Nat.reduceLT, Nat.reduceLeDiff, Nat.reduceEqDiff, Int.reduceToNat, Int.reduceLE, Int.reduceLT, Int.reduceAdd, Int.reduceSub, Int.reduceNeg, Int.reduceBEq, Int.reduceBNe, Nat.reduceBNe, Nat.reduceDiv, Nat.reduceMod, h1, h2]
  refine kont_call hb fn16 rfl ?_ (of_ok l lv hl hv) (RetL.flat fun x => rfl) rfl fun d h hR => ?_
  · simp only [go_sem, Nat.reduceAdd, Nat.reduceSub, Nat.reduceMul, Nat.reduceBEq, Nat.reduceLT, Nat.reduceLeDiff, Nat.reduceEqDiff, Int.reduceToNat, Int.reduceLE, Int.reduceLT, Int.reduceAdd, Int.reduceSub, Int.reduceNeg, Int.reduceBEq, Int.reduceBNe, Nat.reduceBNe, Nat.reduceDiv, Nat.reduceMod]
  obtain ⟨g1, rfl, rfl⟩ := hR
  refine kont_of_hx cx_ok hb 200 ?_
  simp only [go_sem, Nat.reduceAdd, Nat.reduceSub, Nat.reduceMul, Nat.reduceBEq, Nat.reduceLT, Nat.reduceLeDiff, Nat.reduceEqDiff, Int.reduceToNat, Int.reduceLE, Int.reduceLT, Int.reduceAdd, Int.reduceSub, Int.reduceNeg, Int.reduceBEq, Int.reduceBNe, Nat.reduceBNe, Nat.reduceDiv, Nat.reduceMod]
  refine kont_call hb fn18 rfl ?_ (rof_ok l lv hl hv) (RetL.flat fun x => rfl) rfl fun d h hR => ?_
  · simp only [go_sem, Nat.reduceAdd, Nat.reduceSub, Nat.reduceMul, Nat.reduceBEq, Nat.reduceLT, Nat.reduceLeDiff, Nat.reduceEqDiff, Int.reduceToNat, Int.reduceLE, Int.reduceLT, Int.reduceAdd, Int.reduceSub, Int.reduceNeg, Int.reduceBEq, Int.reduceBNe, Nat.reduceBNe, Nat.reduceDiv, Nat.reduceMod]
  obtain ⟨g2, rfl, rfl⟩ := hR
  refine kont_of_hx cx_ok hb 200 ?_
  simp only [go_sem, Nat.reduceAdd, Nat.reduceSub, Nat.reduceMul, Nat.reduceBEq, Nat.reduceLT, Nat.reduceLeDiff, Nat.reduceEqDiff, Int.reduceToNat, Int.reduceLE, Int.reduceLT, Int.reduceAdd, Int.reduceSub, Int.reduceNeg, Int.reduceBEq, Int.reduceBNe, Nat.reduceBNe, Nat.reduceDiv, Nat.reduceMod]
  refine kont_call hb fn19 rfl ?_ (since_ok l lv hl hv) (RetL.flat fun x => rfl) rfl fun d h hR => ?_
  · simp only [go_sem, Nat.reduceAdd, Nat.reduceSub, Nat.reduceMul, Nat.reduceBEq, Nat.reduceLT, Nat.reduceLeDiff, Nat.reduceEqDiff, Int.reduceToNat, Int.reduceLE, Int.reduceLT, Int.reduceAdd, Int.reduceSub, Int.reduceNeg, Int.reduceBEq, Int.reduceBNe, Nat.reduceBNe, Nat.reduceDiv, Nat.reduceMod]
  obtain ⟨g3, rfl, rfl⟩ := hR
  rw [spans_law]
  have e1 : (fromAt (spAt lv l l.length) (spAt lv l l.length).length).length = (spAt lv l l.length).length := by simp [fromAt]
  have e2 : ∀ k, k < (spAt lv l l.length).length → (fromAt (spAt lv l l.length) (spAt lv l l.length).length).getD k default = ((spAt lv l l.length).getD k default).frm := fun k hk => by
    simp [fromAt, List.getD_eq_getElem?_getD, hk]
  rw [e1]
  have hL := spAt_len lv l l.length
  generalize hLL : spAt lv l l.length = L at *
  generalize hFF : fromAt L L.length = F at *
  refine kont_of_hx cx_ok hb 200 ?_
  simp only [go_sem, Nat.reduceAdd, Nat.reduceSub, Nat.reduceMul, Nat.reduceBEq, Nat.reduceLT, Nat.reduceLeDiff, Nat.reduceEqDiff, Int.reduceToNat, Int.reduceLE, Int.reduceLT, Int.reduceAdd, Int.reduceSub, Int.reduceNeg, Int.reduceBEq, Int.reduceBNe, Nat.reduceBNe, Nat.reduceDiv, Nat.reduceMod, bne_self_eq_false]
  refine kont_for (fun k s => s = ⟨[(0, evs l), (1, ints lv), (5, .ref 0 g1 0 L.length), (6, .ref 1 g2 0 L.length), (7, .ref 2 g3 0 L.length), (41, .ref 1 g2 0 L.length), (42, dint L.length), (43, dint k)], [⟨.arr, g1, 5, L.length, fun i => (L.getD i default).cells⟩, ⟨.arr, g2, 5, L.length, fun i => (L.getD i default).cells⟩, ⟨.arr, g3, 1, L.length, fun i => u64c (F.getD i default)⟩]⟩) L.length
    (s0 := ⟨[(0, evs l), (1, ints lv), (5, .ref 0 g1 0 L.length), (6, .ref 1 g2 0 L.length), (7, .ref 2 g3 0 L.length), (41, .ref 1 g2 0 L.length), (42, dint L.length), (43, dint 0)], [⟨.arr, g1, 5, L.length, fun i => (L.getD i default).cells⟩, ⟨.arr, g2, 5, L.length, fun i => (L.getD i default).cells⟩, ⟨.arr, g3, 1, L.length, fun i => u64c (F.getD i default)⟩]⟩)
    (Weak.to 3 (by (simp only [go_sem, Nat.reduceAdd, Nat.reduceSub, Nat.reduceMul, Nat.reduceBEq, Nat.reduceLT, Nat.reduceLeDiff, Nat.reduceEqDiff, Int.reduceToNat, Int.reduceLE, Int.reduceLT, Int.reduceAdd, Int.reduceSub, Int.reduceNeg, Int.reduceBEq, Int.reduceBNe, Nat.reduceBNe, Nat.reduceDiv, Nat.reduceMod]) <;> simp)) rfl ?_
  rintro k s hk rfl
  refine kont_of_hx cx_ok hb 200 ?_
  simp only [go_sem, Nat.reduceAdd, Nat.reduceSub, Nat.reduceMul, Nat.reduceBEq, Nat.reduceLT, Nat.reduceLeDiff, Nat.reduceEqDiff, Int.reduceToNat, Int.reduceLE, Int.reduceLT, Int.reduceAdd, Int.reduceSub, Int.reduceNeg, Int.reduceBEq, Int.reduceBNe, Nat.reduceBNe, Nat.reduceDiv, Nat.reduceMod]
  have hwr := wrap_succ (show k < 4611686018427387904 by omega)
  refine hite_intro (fun h => ?_) (fun h => ?_)
  · have hk1 : k < L.length := by simpa using h
    simp only [go_sem, Nat.reduceAdd, Nat.reduceSub, Nat.reduceMul, Nat.reduceBEq, Nat.reduceLT, Nat.reduceLeDiff, Nat.reduceEqDiff, Int.reduceToNat, Int.reduceLE, Int.reduceLT, Int.reduceAdd, Int.reduceSub, Int.reduceNeg, Int.reduceBEq, Int.reduceBNe, Nat.reduceBNe, Nat.reduceDiv, Nat.reduceMod, hk1]
    refine kont_hax cx_ok hb 200 mixed [(0, true), (1, true), (2, true), (3, true), (4, true), (5, true), (6, true), (7, true), (8, true), (9, true), (10, true), (11, true), (12, true), (13, true), (14, true), (15, true), (16, true), (17, true), (18, true), (19, true), (20, true), (21, true), (22, true), (23, true), (24, true)] (by kernel_rfl) ?_
    simp only [go_sem, Nat.reduceAdd, Nat.reduceSub, Nat.reduceMul, Nat.reduceBEq, Nat.reduceLT, Nat.reduceLeDiff, Nat.reduceEqDiff, Int.reduceToNat, Int.reduceLE, Int.reduceLT, Int.reduceAdd, Int.reduceSub, Int.reduceNeg, Int.reduceBEq, Int.reduceBNe, Nat.reduceBNe, Nat.reduceDiv, Nat.reduceMod, hk1, e2 k hk1, bne_self_eq_false]
    repeat (refine And.intro (by first | assumption | omega) ?_)
    exact ⟨_, Weak.to 3 (by (simp only [go_sem, Nat.reduceAdd, Nat.reduceSub, Nat.reduceMul, Nat.reduceBEq, Nat.reduceLT, Nat.reduceLeDiff, Nat.reduceEqDiff, Int.reduceToNat, Int.reduceLE, Int.reduceLT, Int.reduceAdd, Int.reduceSub, Int.reduceNeg, Int.reduceBEq, Int.reduceBNe, Nat.reduceBNe, Nat.reduceDiv, Nat.reduceMod, hwr]) <;> simp), rfl⟩
  · have hk1 : k = L.length := by simp at h; omega
    subst hk1
    simp only [go_sem, Nat.reduceAdd, Nat.reduceSub, Nat.reduceMul, Nat.reduceBEq, Nat.reduceLT, Nat.reduceLeDiff, Nat.reduceEqDiff, Int.reduceToNat, Int.reduceLE, Int.reduceLT, Int.reduceAdd, Int.reduceSub, Int.reduceNeg, Int.reduceBEq, Int.reduceBNe, Nat.reduceBNe, Nat.reduceDiv, Nat.reduceMod]
    refine kont_of_hx cx_ok hb 200 ?_
    simp only [go_sem, Nat.reduceAdd, Nat.reduceSub, Nat.reduceMul, Nat.reduceBEq, Nat.reduceLT, Nat.reduceLeDiff, Nat.reduceEqDiff, Int.reduceToNat, Int.reduceLE, Int.reduceLT, Int.reduceAdd, Int.reduceSub, Int.reduceNeg, Int.reduceBEq, Int.reduceBNe, Nat.reduceBNe, Nat.reduceDiv, Nat.reduceMod]
    refine kont_call hb fn20 rfl ?_ (lengths_ok l lv hl hv) (RetL.flat fun x => rfl) rfl fun d h hR => ?_
    · simp only [go_sem, Nat.reduceAdd, Nat.reduceSub, Nat.reduceMul, Nat.reduceBEq, Nat.reduceLT, Nat.reduceLeDiff, Nat.reduceEqDiff, Int.reduceToNat, Int.reduceLE, Int.reduceLT, Int.reduceAdd, Int.reduceSub, Int.reduceNeg, Int.reduceBEq, Int.reduceBNe, Nat.reduceBNe, Nat.reduceDiv, Nat.reduceMod]
    obtain ⟨g4, rfl, rfl⟩ := hR
    rw [lens_len]
    refine kont_of_hx cx_ok hb 200 ?_
    simp only [go_sem, Nat.reduceAdd, Nat.reduceSub, Nat.reduceMul, Nat.reduceBEq, Nat.reduceLT, Nat.reduceLeDiff, Nat.reduceEqDiff, Int.reduceToNat, Int.reduceLE, Int.reduceLT, Int.reduceAdd, Int.reduceSub, Int.reduceNeg, Int.reduceBEq, Int.reduceBNe, Nat.reduceBNe, Nat.reduceDiv, Nat.reduceMod]
    have n1 := lens_get lv l l.length l.length (by omega)
    have hlt : l.length < l.length + 1 := by omega
    have hin : decide (l.length < l.length + 1) = true := by simp
    refine kont_hax cx_ok hb 200 mixed [(0, true), (1, true), (3, true), (4, true), (5, true), (6, true), (7, true), (8, true), (2, false), (9, true), (10, true), (11, false), (12, true), (13, true)] (by kernel_rfl) ?_
    simp only [go_sem, Nat.reduceAdd, Nat.reduceSub, Nat.reduceMul, Nat.reduceBEq, Nat.reduceLT, Nat.reduceLeDiff, Nat.reduceEqDiff, Int.reduceToNat, Int.reduceLE, Int.reduceLT, Int.reduceAdd, Int.reduceSub, Int.reduceNeg, Int.reduceBEq, Int.reduceBNe, Nat.reduceBNe, Nat.reduceDiv, Nat.reduceMod, n1, hlt]
    refine AX_call hb fn17 rfl ?_ (backlogged_ok l lv hl hv) (Ret.flat rfl) rfl fun d h hR => ?_
    · simp only [go_sem, Nat.reduceAdd, Nat.reduceSub, Nat.reduceMul, Nat.reduceBEq, Nat.reduceLT, Nat.reduceLeDiff, Nat.reduceEqDiff, Int.reduceToNat, Int.reduceLE, Int.reduceLT, Int.reduceAdd, Int.reduceSub, Int.reduceNeg, Int.reduceBEq, Int.reduceBNe, Nat.reduceBNe, Nat.reduceDiv, Nat.reduceMod]
    obtain ⟨rfl, rfl⟩ := hR
    refine AX_of_hax cx_ok hb ?_
    simp only [go_sem, Nat.reduceAdd, Nat.reduceSub, Nat.reduceMul, Nat.reduceBEq, Nat.reduceLT, Nat.reduceLeDiff, Nat.reduceEqDiff, Int.reduceToNat, Int.reduceLE, Int.reduceLT, Int.reduceAdd, Int.reduceSub, Int.reduceNeg, Int.reduceBEq, Int.reduceBNe, Nat.reduceBNe, Nat.reduceDiv, Nat.reduceMod]
    have e : (decide (0 < lenAt lv l l.length) == decide ((0:Int) < lenAt lv l l.length)) = true := by simp
    simp only [e]
    simp only [go_sem, Nat.reduceAdd, Nat.reduceSub, Nat.reduceMul, Nat.reduceBEq, Nat.reduceLT, Nat.reduceLeDiff, Nat.reduceEqDiff, Int.reduceToNat, Int.reduceLE, Int.reduceLT, Int.reduceAdd, Int.reduceSub, Int.reduceNeg, Int.reduceBEq, Int.reduceBNe, Nat.reduceBNe, Nat.reduceDiv, Nat.reduceMod]
    refine AX_call hb fn15 rfl ?_ two_ok (Ret.flat rfl) rfl fun d h hR => ?_
    · simp only [go_sem, Nat.reduceAdd, Nat.reduceSub, Nat.reduceMul, Nat.reduceBEq, Nat.reduceLT, Nat.reduceLeDiff, Nat.reduceEqDiff, Int.reduceToNat, Int.reduceLE, Int.reduceLT, Int.reduceAdd, Int.reduceSub, Int.reduceNeg, Int.reduceBEq, Int.reduceBNe, Nat.reduceBNe, Nat.reduceDiv, Nat.reduceMod]
    obtain ⟨rfl, rfl⟩ := hR
    refine AX_of_hax cx_ok hb ?_
    simp only [go_sem, Nat.reduceAdd, Nat.reduceSub, Nat.reduceMul, Nat.reduceBEq, Nat.reduceLT, Nat.reduceLeDiff, Nat.reduceEqDiff, Int.reduceToNat, Int.reduceLE, Int.reduceLT, Int.reduceAdd, Int.reduceSub, Int.reduceNeg, Int.reduceBEq, Int.reduceBNe, Nat.reduceBNe, Nat.reduceDiv, Nat.reduceMod]
end Go.Fg.X
