/- Walks of the functions that the statement reaches. No conditions: contracts and laws. -/
import Derived.Test.YtiijehklpambbaaXC
namespace Go.Fg.X
open Go.Proofs Go.Fg
set_option maxRecDepth 100000
set_option linter.unusedSimpArgs false
set_option linter.unusedVariables false
structure Good (l : List Ev) (out : List Sp) (k n : Nat) : Prop where
  a : ∀ i, i < out.length → ∃ f : Nat, (out.getD i default).fst = f ∧ f < k ∧ (out.getD i default).frm = (l.getD f default).at_ ∧
    ((out.getD i default).opn = false → ∃ t : Nat, (out.getD i default).lst = t ∧ f < t ∧ t < k ∧ (out.getD i default).to = (l.getD t default).at_)
  b : ∀ i, i + 1 < out.length → (out.getD i default).opn = false ∧ (out.getD i default).lst < (out.getD (i + 1) default).fst
  c : 0 < n ↔ 0 < out.length ∧ (out.getD (out.length - 1) default).opn = true
theorem getD_lt {α : Type} (l : List α) (x d : α) (i : Nat) (h : i < l.length) : (l ++ [x]).getD i d = l.getD i d := by simp [List.getElem?_append_left h]
theorem getD_end {α : Type} (l : List α) (x d : α) : (l ++ [x]).getD l.length d = x := by simp
theorem getD_set_eq {α : Type} (l : List α) (x d : α) (i : Nat) (h : i < l.length) : (l.set i x).getD i d = x := by simp [h]
theorem getD_set_ne' {α : Type} (l : List α) (x d : α) (i j : Nat) (h : j ≠ i) : (l.set j x).getD i d = l.getD i d := by simp [List.getElem?_set_ne h]
theorem good (lv : List Int) (l : List Ev) : ∀ k, Good l (spAt lv l k) k (lenAt lv l k)
  | 0 => ⟨fun i h => by simp [spAt] at h, fun i h => by simp [spAt] at h, by simp [spAt, lenAt]⟩
  | k + 1 => by
    have G := good lv l k
    have mono : ∀ i, i < (spAt lv l k).length → ∃ f : Nat, ((spAt lv l k).getD i default).fst = f ∧ f < k + 1 ∧ ((spAt lv l k).getD i default).frm = (l.getD f default).at_ ∧
        (((spAt lv l k).getD i default).opn = false → ∃ t : Nat, ((spAt lv l k).getD i default).lst = t ∧ f < t ∧ t < k + 1 ∧ ((spAt lv l k).getD i default).to = (l.getD t default).at_) := fun i hi => by
      obtain ⟨f, h1, h2, h3, h4⟩ := G.a i hi
      exact ⟨f, h1, by omega, h3, fun e => let ⟨t, t1, t2, t3, t4⟩ := h4 e; ⟨t, t1, t2, by omega, t4⟩⟩
    have G := G
    simp only [spAt, lenAt, spStep]
    generalize spAt lv l k = out at *
    generalize lenAt lv l k = n at *
    generalize lenN n (l.getD k default) lv = m at *
    by_cases h1 : n = 0 ∧ 0 < m
    · rw [if_pos h1]
      have hc : ¬ (0 < out.length ∧ (out.getD (out.length - 1) default).opn = true) := fun h => by have := G.c.2 h; omega
      refine ⟨fun i hi => ?_, fun i hi => ?_, ?_⟩
      · by_cases hi2 : i < out.length
        · rw [getD_lt _ _ _ _ hi2]; exact mono i hi2
        · have : i = out.length := by simp at hi; omega
          subst this
          rw [getD_end]
          exact ⟨k, rfl, by omega, rfl, fun e => by cases e⟩
      · simp only [List.length_append, List.length_cons, List.length_nil] at hi
        rw [getD_lt _ _ _ _ (by omega)]
        by_cases hi2 : i + 1 < out.length
        · rw [getD_lt _ _ _ _ hi2]; exact G.b i hi2
        · have e : i + 1 = out.length := by omega
          rw [e, getD_end]
          have hop : (out.getD i default).opn = false := by
            cases ho : (out.getD i default).opn
            · rfl
            · exact absurd ⟨by omega, by rw [show out.length - 1 = i by omega]; exact ho⟩ hc
          obtain ⟨f, h1, h2, h3, h4⟩ := G.a i (by omega)
          obtain ⟨t, t1, t2, t3, t4⟩ := h4 hop
          exact ⟨hop, by rw [t1]; simp; omega⟩
      · simp only [List.length_append, List.length_cons, List.length_nil, Nat.add_sub_cancel, Nat.zero_add]
        rw [getD_end]
        exact ⟨fun _ => ⟨by omega, rfl⟩, fun _ => h1.2⟩
    · rw [if_neg h1]
      by_cases h2 : 0 < n ∧ m = 0
      · rw [if_pos h2]
        obtain ⟨c1, c2⟩ := G.c.1 h2.1
        obtain ⟨f, f1, f2, f3, f4⟩ := G.a (out.length - 1) (by omega)
        refine ⟨fun i hi => ?_, fun i hi => ?_, ?_⟩
        · rw [List.length_set] at hi
          by_cases hi2 : i = out.length - 1
          · subst hi2
            rw [getD_set_eq _ _ _ _ (by omega)]
            exact ⟨f, f1, by omega, f3, fun _ => ⟨k, rfl, f2, by omega, rfl⟩⟩
          · rw [getD_set_ne' _ _ _ _ _ (Ne.symm hi2)]; exact mono i hi
        · rw [List.length_set] at hi
          rw [getD_set_ne' _ _ _ _ _ (show out.length - 1 ≠ i by omega)]
          by_cases hi2 : i + 1 = out.length - 1
          · rw [hi2, getD_set_eq _ _ _ _ (by omega)]
            have := G.b i hi
            rw [hi2] at this
            exact this
          · rw [getD_set_ne' _ _ _ _ _ (Ne.symm hi2)]; exact G.b i hi
        · rw [List.length_set, getD_set_eq _ _ _ _ (by omega)]
          exact ⟨fun h => by omega, fun h => by cases h.2⟩
      · rw [if_neg h2]
        refine ⟨mono, G.b, ?_⟩
        rw [← G.c]; omega
def lastAt (L : List Sp) (k : Nat) : Int := if k = 0 then -1 else (L.getD (k - 1) default).lst
def openAt (L : List Sp) (k : Nat) : Bool := if k = 0 then false else (L.getD (k - 1) default).opn
theorem mixed : Try.prog.follows .mixedOrders = true := by kernel_rfl
set_option maxRecDepth 20000 in
theorem apart_ok (l : List Ev) (lv : List Int) : AFn Try.prog 3 [evs l, ints lv] (Ret (dbool true)) := by
  refine AFn_hxk 0 cx_ok 200 Try.func3 rfl Try.ntmps3 Try.results3 rfl fun base w pl hb => ?_
  simp only [go_sem, Nat.reduceAdd, Nat.reduceSub, Nat.reduceMul, Nat.reduceBEq, Nat.reduceLT, Nat.reduceLeDiff, Nat.reduceEqDiff, Int.reduceToNat, Int.reduceLE, Int.reduceLT, Int.reduceAdd, Int.reduceSub, Int.reduceNeg, Int.reduceBEq, Int.reduceBNe, Nat.reduceBNe, Nat.reduceDiv, Nat.reduceMod]
  by_cases h1 : decide ((500 : Int) < l.length) = true
  · simp only [go_sem, Nat.reduceAdd, Nat.reduceSub, Nat.reduceMul, Nat.reduceBEq, Nat.reduceLT, Nat.reduceLeDiff, Nat.reduceEqDiff, Int.reduceToNat, Int.reduceLE, Int.reduceLT, Int.reduceAdd, Int.reduceSub, Int.reduceNeg, Int.reduceBEq, Int.reduceBNe, Nat.reduceBNe, Nat.reduceDiv, Nat.reduceMod, h1]
    refine kont_call hb fn15 rfl ?_ two_ok (Ret.flat rfl) rfl fun d h hR => ?_
    · simp only [go_sem, Nat.reduceAdd, Nat.reduceSub, Nat.reduceMul, Nat.reduceBEq, Nat.reduceLT, Nat.reduceLeDiff, Nat.reduceEqDiff, Int.reduceToNat, Int.reduceLE, Int.reduceLT, Int.reduceAdd, Int.reduceSub, Int.reduceNeg, Int.reduceBEq, Int.reduceBNe, Nat.reduceBNe, Nat.reduceDiv, Nat.reduceMod]
    obtain ⟨rfl, rfl⟩ := hR
    refine kont_of_hx cx_ok hb 200 ?_
    simp only [go_sem, Nat.reduceAdd, Nat.reduceSub, Nat.reduceMul, Nat.reduceBEq, Nat.reduceLT, Nat.reduceLeDiff, Nat.reduceEqDiff, Int.reduceToNat, Int.reduceLE, Int.reduceLT, Int.reduceAdd, Int.reduceSub, Int.reduceNeg, Int.reduceBEq, Int.reduceBNe, Nat.reduceBNe, Nat.reduceDiv, Nat.reduceMod]
  by_cases h2 : decide ((100 : Int) < lv.length) = true
  · simp only [go_sem, Nat.reduceAdd, Nat.reduceSub, Nat.reduceMul, Nat.reduceBEq, Nat.reduceLT, Nat.reduceLeDiff, Nat.reduceEqDiff, Int.reduceToNat, Int.reduceLE, Int.reduceLT, Int.reduceAdd, Int.reduceSub, Int.reduceNeg, Int.reduceBEq, Int.reduceBNe, Nat.reduceBNe, Nat.reduceDiv, Nat.reduceMod, h1, h2]
    refine kont_call hb fn15 rfl ?_ two_ok (Ret.flat rfl) rfl fun d h hR => ?_
    · simp only [go_sem, Nat.reduceAdd, Nat.reduceSub, Nat.reduceMul, Nat.reduceBEq, Nat.reduceLT, Nat.reduceLeDiff, Nat.reduceEqDiff, Int.reduceToNat, Int.reduceLE, Int.reduceLT, Int.reduceAdd, Int.reduceSub, Int.reduceNeg, Int.reduceBEq, Int.reduceBNe, Nat.reduceBNe, Nat.reduceDiv, Nat.reduceMod]
    obtain ⟨rfl, rfl⟩ := hR
    refine kont_of_hx cx_ok hb 200 ?_
    simp only [go_sem, Nat.reduceAdd, Nat.reduceSub, Nat.reduceMul, Nat.reduceBEq, Nat.reduceLT, Nat.reduceLeDiff, Nat.reduceEqDiff, Int.reduceToNat, Int.reduceLE, Int.reduceLT, Int.reduceAdd, Int.reduceSub, Int.reduceNeg, Int.reduceBEq, Int.reduceBNe, Nat.reduceBNe, Nat.reduceDiv, Nat.reduceMod]
  have hl : l.length < 2147483648 := by simp at h1; omega
  have hv : lv.length < 2147483648 := by simp at h2; omega
  simp only [go_sem, Nat.reduceAdd, Nat.reduceSub, Nat.reduceMul, Nat.reduceBEq, Nat.reduceLT, Nat.reduceLeDiff, Nat.reduceEqDiff, Int.reduceToNat, Int.reduceLE, Int.reduceLT, Int.reduceAdd, Int.reduceSub, Int.reduceNeg, Int.reduceBEq, Int.reduceBNe, Nat.reduceBNe, Nat.reduceDiv, Nat.reduceMod, h1, h2]
  refine kont_call hb fn16 rfl ?_ (of_ok l lv hl hv) (RetL.flat fun x => rfl) rfl fun d h hR => ?_
  · simp only [go_sem, Nat.reduceAdd, Nat.reduceSub, Nat.reduceMul, Nat.reduceBEq, Nat.reduceLT, Nat.reduceLeDiff, Nat.reduceEqDiff, Int.reduceToNat, Int.reduceLE, Int.reduceLT, Int.reduceAdd, Int.reduceSub, Int.reduceNeg, Int.reduceBEq, Int.reduceBNe, Nat.reduceBNe, Nat.reduceDiv, Nat.reduceMod]
  obtain ⟨g, rfl, rfl⟩ := hR
  refine kont_of_hx cx_ok hb 200 ?_
  simp only [go_sem, Nat.reduceAdd, Nat.reduceSub, Nat.reduceMul, Nat.reduceBEq, Nat.reduceLT, Nat.reduceLeDiff, Nat.reduceEqDiff, Int.reduceToNat, Int.reduceLE, Int.reduceLT, Int.reduceAdd, Int.reduceSub, Int.reduceNeg, Int.reduceBEq, Int.reduceBNe, Nat.reduceBNe, Nat.reduceDiv, Nat.reduceMod]
  have G := good lv l l.length
  have hL := spAt_len lv l l.length
  have hn := lenAt_le lv l l.length
  generalize hLL : spAt lv l l.length = L at *
  refine kont_for (fun k s => s = ⟨[(0, evs l), (1, ints lv), (5, dint (lastAt L k)), (6, dbool (openAt L k)), (20, .ref 0 g 0 L.length), (21, dint L.length), (22, dint k)], [⟨.arr, g, 5, L.length, fun i => (L.getD i default).cells⟩]⟩) L.length
    (s0 := ⟨[(0, evs l), (1, ints lv), (5, dint (-1)), (6, dbool false), (20, .ref 0 g 0 L.length), (21, dint L.length), (22, dint 0)], [⟨.arr, g, 5, L.length, fun i => (L.getD i default).cells⟩]⟩)
    (Weak.to 1 (by simp only [go_sem, Nat.reduceAdd, Nat.reduceSub, Nat.reduceMul, Nat.reduceBEq, Nat.reduceLT, Nat.reduceLeDiff, Nat.reduceEqDiff, Int.reduceToNat, Int.reduceLE, Int.reduceLT, Int.reduceAdd, Int.reduceSub, Int.reduceNeg, Int.reduceBEq, Int.reduceBNe, Nat.reduceBNe, Nat.reduceDiv, Nat.reduceMod])) rfl ?_
  rintro k s hk rfl
  refine kont_of_hx cx_ok hb 200 ?_
  simp only [go_sem, Nat.reduceAdd, Nat.reduceSub, Nat.reduceMul, Nat.reduceBEq, Nat.reduceLT, Nat.reduceLeDiff, Nat.reduceEqDiff, Int.reduceToNat, Int.reduceLE, Int.reduceLT, Int.reduceAdd, Int.reduceSub, Int.reduceNeg, Int.reduceBEq, Int.reduceBNe, Nat.reduceBNe, Nat.reduceDiv, Nat.reduceMod]
  refine hite_intro (fun h => ?_) (fun h => ?_)
  · have hk1 : k < L.length := by simpa using h
    simp only [go_sem, Nat.reduceAdd, Nat.reduceSub, Nat.reduceMul, Nat.reduceBEq, Nat.reduceLT, Nat.reduceLeDiff, Nat.reduceEqDiff, Int.reduceToNat, Int.reduceLE, Int.reduceLT, Int.reduceAdd, Int.reduceSub, Int.reduceNeg, Int.reduceBEq, Int.reduceBNe, Nat.reduceBNe, Nat.reduceDiv, Nat.reduceMod, hk1]
    refine kont_hax cx_ok hb 200 mixed ((List.range 55).map fun i => (i, true)) ?_ ?_
    · kernel_rfl
    obtain ⟨f, f1, f2, f3, f4⟩ := G.a k hk1
    have o1 : openAt L k = false := by
      unfold openAt
      split
      · rfl
      · exact (G.b (k - 1) (by omega)).1
    have o2 : lastAt L k < f := by
      unfold lastAt
      split
      · omega
      · have := (G.b (k - 1) (by omega)).2
        rw [show k - 1 + 1 = k by omega, f1] at this
        exact this
    have o3 : decide ((f : Int) ≤ lastAt L k) = false := by simp; omega
    have o4 : decide (l.length ≤ f) = false := by simp; omega
    have o5 : f < l.length := f2
    have e1 : lastAt L (k + 1) = (L.getD k default).lst := by simp [lastAt]
    have e2 : openAt L (k + 1) = (L.getD k default).opn := by simp [openAt]
    have hwr := wrap_succ (show k < 4611686018427387904 by omega)
    cases ho : (L.getD k default).opn
    · obtain ⟨t, t1, t2, t3, t4⟩ := f4 ho
      have o6 : decide (t ≤ f) = false := by simp; omega
      have o7 : decide (l.length ≤ t) = false := by simp; omega
      simp only [go_sem, Nat.reduceAdd, Nat.reduceSub, Nat.reduceMul, Nat.reduceBEq, Nat.reduceLT, Nat.reduceLeDiff, Nat.reduceEqDiff, Int.reduceToNat, Int.reduceLE, Int.reduceLT, Int.reduceAdd, Int.reduceSub, Int.reduceNeg, Int.reduceBEq, Int.reduceBNe, Nat.reduceBNe, Nat.reduceDiv, Nat.reduceMod, List.range, List.range.loop, o1, o3, o4, o5, o6, o7, f1, f3, t1, t3, t4, ho, bne_self_eq_false]
      exact ⟨hk1, _, Weak.to 1 (by simp only [go_sem, Nat.reduceAdd, Nat.reduceSub, Nat.reduceMul, Nat.reduceBEq, Nat.reduceLT, Nat.reduceLeDiff, Nat.reduceEqDiff, Int.reduceToNat, Int.reduceLE, Int.reduceLT, Int.reduceAdd, Int.reduceSub, Int.reduceNeg, Int.reduceBEq, Int.reduceBNe, Nat.reduceBNe, Nat.reduceDiv, Nat.reduceMod, hwr, e1, e2, f1, f3, ho, t1, t4]), rfl⟩
    · simp only [go_sem, Nat.reduceAdd, Nat.reduceSub, Nat.reduceMul, Nat.reduceBEq, Nat.reduceLT, Nat.reduceLeDiff, Nat.reduceEqDiff, Int.reduceToNat, Int.reduceLE, Int.reduceLT, Int.reduceAdd, Int.reduceSub, Int.reduceNeg, Int.reduceBEq, Int.reduceBNe, Nat.reduceBNe, Nat.reduceDiv, Nat.reduceMod, List.range, List.range.loop, o1, o3, o4, o5, f1, f3, ho, bne_self_eq_false]
      exact ⟨hk1, _, Weak.to 1 (by simp only [go_sem, Nat.reduceAdd, Nat.reduceSub, Nat.reduceMul, Nat.reduceBEq, Nat.reduceLT, Nat.reduceLeDiff, Nat.reduceEqDiff, Int.reduceToNat, Int.reduceLE, Int.reduceLT, Int.reduceAdd, Int.reduceSub, Int.reduceNeg, Int.reduceBEq, Int.reduceBNe, Nat.reduceBNe, Nat.reduceDiv, Nat.reduceMod, hwr, e1, e2, f1, f3, ho]), rfl⟩
  · have hk1 : k = L.length := by simp at h; omega
    simp only [go_sem, Nat.reduceAdd, Nat.reduceSub, Nat.reduceMul, Nat.reduceBEq, Nat.reduceLT, Nat.reduceLeDiff, Nat.reduceEqDiff, Int.reduceToNat, Int.reduceLE, Int.reduceLT, Int.reduceAdd, Int.reduceSub, Int.reduceNeg, Int.reduceBEq, Int.reduceBNe, Nat.reduceBNe, Nat.reduceDiv, Nat.reduceMod]
    refine kont_of_hx cx_ok hb 200 ?_
    simp only [go_sem, Nat.reduceAdd, Nat.reduceSub, Nat.reduceMul, Nat.reduceBEq, Nat.reduceLT, Nat.reduceLeDiff, Nat.reduceEqDiff, Int.reduceToNat, Int.reduceLE, Int.reduceLT, Int.reduceAdd, Int.reduceSub, Int.reduceNeg, Int.reduceBEq, Int.reduceBNe, Nat.reduceBNe, Nat.reduceDiv, Nat.reduceMod]
    refine kont_call hb fn17 rfl ?_ (backlogged_ok l lv hl hv) (Ret.flat rfl) rfl fun d h hR => ?_
    · simp only [go_sem, Nat.reduceAdd, Nat.reduceSub, Nat.reduceMul, Nat.reduceBEq, Nat.reduceLT, Nat.reduceLeDiff, Nat.reduceEqDiff, Int.reduceToNat, Int.reduceLE, Int.reduceLT, Int.reduceAdd, Int.reduceSub, Int.reduceNeg, Int.reduceBEq, Int.reduceBNe, Nat.reduceBNe, Nat.reduceDiv, Nat.reduceMod]
    obtain ⟨rfl, rfl⟩ := hR
    refine kont_of_hx cx_ok hb 200 ?_
    simp only [go_sem, Nat.reduceAdd, Nat.reduceSub, Nat.reduceMul, Nat.reduceBEq, Nat.reduceLT, Nat.reduceLeDiff, Nat.reduceEqDiff, Int.reduceToNat, Int.reduceLE, Int.reduceLT, Int.reduceAdd, Int.reduceSub, Int.reduceNeg, Int.reduceBEq, Int.reduceBNe, Nat.reduceBNe, Nat.reduceDiv, Nat.reduceMod]
    have e : (openAt L k == decide (0 < lenAt lv l l.length)) = true := by
      rw [beq_iff_eq, Bool.eq_iff_iff, decide_eq_true_eq, G.c]
      subst hk1
      unfold openAt
      split
      · simp; omega
      · simp; omega
    simp only [e]
    simp only [go_sem, Nat.reduceAdd, Nat.reduceSub, Nat.reduceMul, Nat.reduceBEq, Nat.reduceLT, Nat.reduceLeDiff, Nat.reduceEqDiff, Int.reduceToNat, Int.reduceLE, Int.reduceLT, Int.reduceAdd, Int.reduceSub, Int.reduceNeg, Int.reduceBEq, Int.reduceBNe, Nat.reduceBNe, Nat.reduceDiv, Nat.reduceMod]
    refine kont_call hb fn15 rfl ?_ two_ok (Ret.flat rfl) rfl fun d h hR => ?_
    · simp only [go_sem, Nat.reduceAdd, Nat.reduceSub, Nat.reduceMul, Nat.reduceBEq, Nat.reduceLT, Nat.reduceLeDiff, Nat.reduceEqDiff, Int.reduceToNat, Int.reduceLE, Int.reduceLT, Int.reduceAdd, Int.reduceSub, Int.reduceNeg, Int.reduceBEq, Int.reduceBNe, Nat.reduceBNe, Nat.reduceDiv, Nat.reduceMod]
    obtain ⟨rfl, rfl⟩ := hR
    refine kont_of_hx cx_ok hb 200 ?_
    simp only [go_sem, Nat.reduceAdd, Nat.reduceSub, Nat.reduceMul, Nat.reduceBEq, Nat.reduceLT, Nat.reduceLeDiff, Nat.reduceEqDiff, Int.reduceToNat, Int.reduceLE, Int.reduceLT, Int.reduceAdd, Int.reduceSub, Int.reduceNeg, Int.reduceBEq, Int.reduceBNe, Nat.reduceBNe, Nat.reduceDiv, Nat.reduceMod]
end Go.Fg.X
