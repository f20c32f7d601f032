/- Walks of the functions that the statement reaches. No conditions: contracts and laws. -/
import Derived.Test.YtiiaocpkjmiacaaYA5
namespace Go.Fg.X
open Go.Proofs Go.Fg
set_option maxRecDepth 100000
set_option maxHeartbeats 4000000
set_option linter.unusedSimpArgs false
set_option linter.unusedVariables false
/-- Rows of a list, from 'off' on. -/
structure RowsAt {α : Type} [Inhabited α] (enc : α → List D) (L : List α) (off : Nat) (row : Nat → List D) : Prop where
  at_ : ∀ i, i < L.length → row (off + i) = enc (L.getD i default)
  all : ∀ i, i < off + L.length → ∃ a, row i = enc a
/-- A slice of an array that the call made, as a list. -/
def RetS {α : Type} [Inhabited α] (sz : Nat) (enc : α → List D) (L : List α) (d : D) (h : List Ob) : Prop := ∃ g off row, d = .ref 0 g off L.length ∧ h = [⟨.arr, g, sz, off + L.length, row⟩] ∧ RowsAt enc L off row
theorem RetS.flat {α : Type} [Inhabited α] {sz : Nat} {enc : α → List D} {L : List α} (hf : ∀ a, flatL (enc a) = true) : ∀ d h, RetS sz enc L d h → d.flat = true ∧ ∀ o ∈ h, o.flat := by
  rintro d h ⟨g, off, row, rfl, rfl, hr⟩
  refine ⟨rfl, fun o ho i hi => ?_⟩
  simp at ho; subst ho
  obtain ⟨a, ha⟩ := hr.all i hi
  show flatL (row i) = true
  rw [ha]; exact hf a
theorem RowsAt.nil {α : Type} [Inhabited α] {enc : α → List D} {row : Nat → List D} : RowsAt enc [] 0 row := ⟨fun i hi => absurd hi (Nat.not_lt_zero i), fun i hi => absurd hi (Nat.not_lt_zero i)⟩
theorem RowsAt.app {α : Type} [Inhabited α] {enc : α → List D} {L : List α} {off : Nat} {row : Nat → List D} (h : RowsAt enc L off row) (x : α) {r2 : Nat → List D} (h2 : r2 0 = enc x) : RowsAt enc (L ++ [x]) 0 (appRow L.length off row r2) := by
  have key : ∀ i, i < L.length + 1 → appRow L.length off row r2 i = enc ((L ++ [x]).getD i default) := fun i hi => by
    by_cases hlt2 : i < L.length
    · rw [appRow_lt hlt2, h.at_ i hlt2]; simp [hlt2, List.getElem?_append_left hlt2]
    · have : i = L.length := by omega
      subst this
      rw [appRow_ge (Nat.le_refl _), Nat.sub_self, h2]; simp
  exact ⟨fun i hi => by simp at hi; rw [Nat.zero_add]; exact key i hi, fun i hi => by simp at hi; exact ⟨_, key i hi⟩⟩
theorem RowsAt.tail {α : Type} [Inhabited α] {enc : α → List D} {L : List α} {off : Nat} {row : Nat → List D} (h : RowsAt enc L off row) (hne : 0 < L.length) : RowsAt enc L.tail (off + 1) row := by
  refine ⟨fun i hi => ?_, fun i hi => h.all i (by simp at hi; omega)⟩
  simp at hi
  rw [show off + 1 + i = off + (i + 1) by omega, h.at_ (i + 1) (by omega)]
  cases L with
  | nil => simp at hi
  | cons a r => simp
theorem RowsAt.upto {α : Type} [Inhabited α] {enc : α → List D} {L : List α} {off : Nat} {row : Nat → List D} (h : RowsAt enc L off row) {k : Nat} (hu : ∀ a, uptoL k (enc a) = true) : ∀ i, i < off + L.length → uptoL k (row i) = true := fun i hi => by
  obtain ⟨a, ha⟩ := h.all i hi
  rw [ha]; exact hu a
theorem pkUp (a : Pk) : uptoL 1 a.cells = true := rfl
theorem getD_len {n : Nat} (h : 0 < n) : ((n : Int) - 1).toNat = n - 1 := by omega
theorem waiting_ok (l : List Ev) (c : Int) (hl : l.length < 1000000) : AFn Try.prog 16 [evs l, dint c] (RetS 6 Pk.cells (wAt l l.length c)) := by
  refine AFn_hxk 1 cx_ok 200 Try.func16 rfl Try.ntmps16 Try.results16 rfl fun base w hb => ?_
  simp only [go_sem, Nat.reduceAdd, Nat.reduceSub, Nat.reduceMul, Nat.reduceBEq, Nat.reduceLT, Nat.reduceLeDiff, Nat.reduceEqDiff, Int.reduceToNat, Int.reduceLE, Int.reduceLT, Int.reduceAdd, Int.reduceSub, Int.reduceNeg, Int.reduceBEq, Int.reduceBNe, Nat.reduceBNe, Nat.reduceDiv, Nat.reduceMod]
  refine kont_for (fun k s => ∃ g off row, RowsAt Pk.cells (wAt l k c) off row ∧ s = ⟨[(1, dint c), (5, .ref 0 g off (wAt l k c).length), (8, evs l), (9, dint l.length), (10, dint k)], [⟨.arr, g, 6, off + (wAt l k c).length, row⟩]⟩) l.length
    (s0 := ⟨[(1, dint c), (5, .ref 0 0 0 0), (8, evs l), (9, dint l.length), (10, dint 0)], [⟨.arr, 0, 6, 0, fun _ => []⟩]⟩)
    (Weak.trans (Weak.phantom 5 6 (fun i => []) rfl) (Weak.frame (by simp only [go_sem, Nat.reduceAdd, Nat.reduceSub, Nat.reduceMul, Nat.reduceBEq, Nat.reduceLT, Nat.reduceLeDiff, Nat.reduceEqDiff, Int.reduceToNat, Int.reduceLE, Int.reduceLT, Int.reduceAdd, Int.reduceSub, Int.reduceNeg, Int.reduceBEq, Int.reduceBNe, Nat.reduceBNe, Nat.reduceDiv, Nat.reduceMod]))) ⟨0, 0, fun _ => [], .nil, rfl⟩ ?_
  rintro k s hk ⟨g, off, row, hr, rfl⟩
  have hwl := wAt_len l k c
  have hwr := wrap_succ (show k < 4611686018427387904 by omega)
  refine kont_of_hx cx_ok hb 200 ?_
  simp only [go_sem, Nat.reduceAdd, Nat.reduceSub, Nat.reduceMul, Nat.reduceBEq, Nat.reduceLT, Nat.reduceLeDiff, Nat.reduceEqDiff, Int.reduceToNat, Int.reduceLE, Int.reduceLT, Int.reduceAdd, Int.reduceSub, Int.reduceNeg, Int.reduceBEq, Int.reduceBNe, Nat.reduceBNe, Nat.reduceDiv, Nat.reduceMod]
  first | refine hite_lt hk (fun hk1 => ?_) (fun hk1 => ?_) | refine hite_ltI hk (fun hk1 => ?_) (fun hk1 => ?_)
  · obtain ⟨e, he⟩ : ∃ e, e = l.getD k default := ⟨_, rfl⟩
    obtain ⟨L, hL⟩ : ∃ L, L = wAt l k c := ⟨_, rfl⟩
    have hst : wAt l (k + 1) c = if c = e.cls then (if e.inn then L ++ [e.pk] else L.tail) else L := by rw [hL, he]; rfl
    rw [← hL] at hr hwl ⊢
    simp only [go_sem, Nat.reduceAdd, Nat.reduceSub, Nat.reduceMul, Nat.reduceBEq, Nat.reduceLT, Nat.reduceLeDiff, Nat.reduceEqDiff, Int.reduceToNat, Int.reduceLE, Int.reduceLT, Int.reduceAdd, Int.reduceSub, Int.reduceNeg, Int.reduceBEq, Int.reduceBNe, Nat.reduceBNe, Nat.reduceDiv, Nat.reduceMod, hk1, ← he]
    by_cases hc : e.cls = c
    · rw [if_pos hc.symm] at hst
      simp only [go_sem, Nat.reduceAdd, Nat.reduceSub, Nat.reduceMul, Nat.reduceBEq, Nat.reduceLT, Nat.reduceLeDiff, Nat.reduceEqDiff, Int.reduceToNat, Int.reduceLE, Int.reduceLT, Int.reduceAdd, Int.reduceSub, Int.reduceNeg, Int.reduceBEq, Int.reduceBNe, Nat.reduceBNe, Nat.reduceDiv, Nat.reduceMod, bneF hc]
      cases hi : e.inn with
      | true =>
        rw [hi, if_pos rfl] at hst
        have hb4 : L.length ≤ 4294967295 := by omega
        have hb5 : L.length + 1 ≤ 4294967295 := by omega
        have hr2 : RowsAt Pk.cells (wAt l (k + 1) c) 0 (appRow L.length off row fun _ => e.pk.cells) := by rw [hst]; exact hr.app e.pk rfl
        have hl2 : (wAt l (k + 1) c).length = L.length + 1 := by rw [hst]; simp
        simp only [go_sem, Nat.reduceAdd, Nat.reduceSub, Nat.reduceMul, Nat.reduceBEq, Nat.reduceLT, Nat.reduceLeDiff, Nat.reduceEqDiff, Int.reduceToNat, Int.reduceLE, Int.reduceLT, Int.reduceAdd, Int.reduceSub, Int.reduceNeg, Int.reduceBEq, Int.reduceBNe, Nat.reduceBNe, Nat.reduceDiv, Nat.reduceMod, hb4, hb5]
        refine ⟨hk1, _, Weak.to 1 ⟨?_, by simp only [go_sem, Nat.reduceAdd, Nat.reduceSub, Nat.reduceMul, Nat.reduceBEq, Nat.reduceLT, Nat.reduceLeDiff, Nat.reduceEqDiff, Int.reduceToNat, Int.reduceLE, Int.reduceLT, Int.reduceAdd, Int.reduceSub, Int.reduceNeg, Int.reduceBEq, Int.reduceBNe, Nat.reduceBNe, Nat.reduceDiv, Nat.reduceMod], ?_, ?_⟩, g + 1, 0, _, hr2, rfl⟩
        · simp only [go_sem, Nat.reduceAdd, Nat.reduceSub, Nat.reduceMul, Nat.reduceBEq, Nat.reduceLT, Nat.reduceLeDiff, Nat.reduceEqDiff, Int.reduceToNat, Int.reduceLE, Int.reduceLT, Int.reduceAdd, Int.reduceSub, Int.reduceNeg, Int.reduceBEq, Int.reduceBNe, Nat.reduceBNe, Nat.reduceDiv, Nat.reduceMod, hwr, hl2]
        · exact ⟨hr2.upto pkUp, trivial⟩
        · simp only [go_sem, Nat.reduceAdd, Nat.reduceSub, Nat.reduceMul, Nat.reduceBEq, Nat.reduceLT, Nat.reduceLeDiff, Nat.reduceEqDiff, Int.reduceToNat, Int.reduceLE, Int.reduceLT, Int.reduceAdd, Int.reduceSub, Int.reduceNeg, Int.reduceBEq, Int.reduceBNe, Nat.reduceBNe, Nat.reduceDiv, Nat.reduceMod, hl2, Ev.pk]
      | false =>
        rw [hi, if_neg (by simp)] at hst
        simp only [go_sem, Nat.reduceAdd, Nat.reduceSub, Nat.reduceMul, Nat.reduceBEq, Nat.reduceLT, Nat.reduceLeDiff, Nat.reduceEqDiff, Int.reduceToNat, Int.reduceLE, Int.reduceLT, Int.reduceAdd, Int.reduceSub, Int.reduceNeg, Int.reduceBEq, Int.reduceBNe, Nat.reduceBNe, Nat.reduceDiv, Nat.reduceMod]
        by_cases h0 : L.length = 0
        · have hnil : L = [] := List.length_eq_zero_iff.1 h0
          subst hnil
          simp only [List.tail_nil] at hst
          have hr2 : RowsAt Pk.cells (wAt l (k + 1) c) off row := by rw [hst]; exact hr
          simp only [go_sem, Nat.reduceAdd, Nat.reduceSub, Nat.reduceMul, Nat.reduceBEq, Nat.reduceLT, Nat.reduceLeDiff, Nat.reduceEqDiff, Int.reduceToNat, Int.reduceLE, Int.reduceLT, Int.reduceAdd, Int.reduceSub, Int.reduceNeg, Int.reduceBEq, Int.reduceBNe, Nat.reduceBNe, Nat.reduceDiv, Nat.reduceMod, Nat.lt_irrefl]
          refine ⟨hk1, _, Weak.to 1 ⟨?_, by simp only [go_sem, Nat.reduceAdd, Nat.reduceSub, Nat.reduceMul, Nat.reduceBEq, Nat.reduceLT, Nat.reduceLeDiff, Nat.reduceEqDiff, Int.reduceToNat, Int.reduceLE, Int.reduceLT, Int.reduceAdd, Int.reduceSub, Int.reduceNeg, Int.reduceBEq, Int.reduceBNe, Nat.reduceBNe, Nat.reduceDiv, Nat.reduceMod], ?_, ?_⟩, g, off, row, hr2, rfl⟩
          · simp only [go_sem, Nat.reduceAdd, Nat.reduceSub, Nat.reduceMul, Nat.reduceBEq, Nat.reduceLT, Nat.reduceLeDiff, Nat.reduceEqDiff, Int.reduceToNat, Int.reduceLE, Int.reduceLT, Int.reduceAdd, Int.reduceSub, Int.reduceNeg, Int.reduceBEq, Int.reduceBNe, Nat.reduceBNe, Nat.reduceDiv, Nat.reduceMod, hwr, hst]
          · exact ⟨hr2.upto pkUp, trivial⟩
          · simp only [go_sem, Nat.reduceAdd, Nat.reduceSub, Nat.reduceMul, Nat.reduceBEq, Nat.reduceLT, Nat.reduceLeDiff, Nat.reduceEqDiff, Int.reduceToNat, Int.reduceLE, Int.reduceLT, Int.reduceAdd, Int.reduceSub, Int.reduceNeg, Int.reduceBEq, Int.reduceBNe, Nat.reduceBNe, Nat.reduceDiv, Nat.reduceMod, hst]
        · have hpos : 0 < L.length := by omega
          have hpi : (0 : Int) < (L.length : Int) := by omega
          have hl2 : (wAt l (k + 1) c).length = L.length - 1 := by rw [hst]; simp
          have hr2 : RowsAt Pk.cells (wAt l (k + 1) c) (off + 1) row := by rw [hst]; exact hr.tail hpos
          have hof : off + 1 + (L.length - 1) = off + L.length := by omega
          simp only [go_sem, Nat.reduceAdd, Nat.reduceSub, Nat.reduceMul, Nat.reduceBEq, Nat.reduceLT, Nat.reduceLeDiff, Nat.reduceEqDiff, Int.reduceToNat, Int.reduceLE, Int.reduceLT, Int.reduceAdd, Int.reduceSub, Int.reduceNeg, Int.reduceBEq, Int.reduceBNe, Nat.reduceBNe, Nat.reduceDiv, Nat.reduceMod, decide_eq_true hpi, getD_len hpos]
          refine ⟨by omega, hk1, _, Weak.to 1 ⟨?_, by simp only [go_sem, Nat.reduceAdd, Nat.reduceSub, Nat.reduceMul, Nat.reduceBEq, Nat.reduceLT, Nat.reduceLeDiff, Nat.reduceEqDiff, Int.reduceToNat, Int.reduceLE, Int.reduceLT, Int.reduceAdd, Int.reduceSub, Int.reduceNeg, Int.reduceBEq, Int.reduceBNe, Nat.reduceBNe, Nat.reduceDiv, Nat.reduceMod], ?_, ?_⟩, g, off + 1, row, hr2, rfl⟩
          · simp only [go_sem, Nat.reduceAdd, Nat.reduceSub, Nat.reduceMul, Nat.reduceBEq, Nat.reduceLT, Nat.reduceLeDiff, Nat.reduceEqDiff, Int.reduceToNat, Int.reduceLE, Int.reduceLT, Int.reduceAdd, Int.reduceSub, Int.reduceNeg, Int.reduceBEq, Int.reduceBNe, Nat.reduceBNe, Nat.reduceDiv, Nat.reduceMod, hwr, hl2]
          · exact ⟨hr2.upto pkUp, trivial⟩
          · simp only [go_sem, Nat.reduceAdd, Nat.reduceSub, Nat.reduceMul, Nat.reduceBEq, Nat.reduceLT, Nat.reduceLeDiff, Nat.reduceEqDiff, Int.reduceToNat, Int.reduceLE, Int.reduceLT, Int.reduceAdd, Int.reduceSub, Int.reduceNeg, Int.reduceBEq, Int.reduceBNe, Nat.reduceBNe, Nat.reduceDiv, Nat.reduceMod, hl2, hof]
    · rw [if_neg (fun h => hc h.symm)] at hst
      have hr2 : RowsAt Pk.cells (wAt l (k + 1) c) off row := by rw [hst]; exact hr
      simp only [go_sem, Nat.reduceAdd, Nat.reduceSub, Nat.reduceMul, Nat.reduceBEq, Nat.reduceLT, Nat.reduceLeDiff, Nat.reduceEqDiff, Int.reduceToNat, Int.reduceLE, Int.reduceLT, Int.reduceAdd, Int.reduceSub, Int.reduceNeg, Int.reduceBEq, Int.reduceBNe, Nat.reduceBNe, Nat.reduceDiv, Nat.reduceMod, bneT hc]
      refine ⟨hk1, _, Weak.to 1 ⟨?_, by simp only [go_sem, Nat.reduceAdd, Nat.reduceSub, Nat.reduceMul, Nat.reduceBEq, Nat.reduceLT, Nat.reduceLeDiff, Nat.reduceEqDiff, Int.reduceToNat, Int.reduceLE, Int.reduceLT, Int.reduceAdd, Int.reduceSub, Int.reduceNeg, Int.reduceBEq, Int.reduceBNe, Nat.reduceBNe, Nat.reduceDiv, Nat.reduceMod], ?_, ?_⟩, g, off, row, hr2, rfl⟩
      · simp only [go_sem, Nat.reduceAdd, Nat.reduceSub, Nat.reduceMul, Nat.reduceBEq, Nat.reduceLT, Nat.reduceLeDiff, Nat.reduceEqDiff, Int.reduceToNat, Int.reduceLE, Int.reduceLT, Int.reduceAdd, Int.reduceSub, Int.reduceNeg, Int.reduceBEq, Int.reduceBNe, Nat.reduceBNe, Nat.reduceDiv, Nat.reduceMod, hwr, hst]
      · exact ⟨hr2.upto pkUp, trivial⟩
      · simp only [go_sem, Nat.reduceAdd, Nat.reduceSub, Nat.reduceMul, Nat.reduceBEq, Nat.reduceLT, Nat.reduceLeDiff, Nat.reduceEqDiff, Int.reduceToNat, Int.reduceLE, Int.reduceLT, Int.reduceAdd, Int.reduceSub, Int.reduceNeg, Int.reduceBEq, Int.reduceBNe, Nat.reduceBNe, Nat.reduceDiv, Nat.reduceMod, hst]
  · have hk1 : k = l.length := by omega
    subst hk1
    simp only [go_sem, Nat.reduceAdd, Nat.reduceSub, Nat.reduceMul, Nat.reduceBEq, Nat.reduceLT, Nat.reduceLeDiff, Nat.reduceEqDiff, Int.reduceToNat, Int.reduceLE, Int.reduceLT, Int.reduceAdd, Int.reduceSub, Int.reduceNeg, Int.reduceBEq, Int.reduceBNe, Nat.reduceBNe, Nat.reduceDiv, Nat.reduceMod, Nat.lt_irrefl]
    refine kont_of_hx cx_ok hb 200 ?_
    simp only [go_sem, Nat.reduceAdd, Nat.reduceSub, Nat.reduceMul, Nat.reduceBEq, Nat.reduceLT, Nat.reduceLeDiff, Nat.reduceEqDiff, Int.reduceToNat, Int.reduceLE, Int.reduceLT, Int.reduceAdd, Int.reduceSub, Int.reduceNeg, Int.reduceBEq, Int.reduceBNe, Nat.reduceBNe, Nat.reduceDiv, Nat.reduceMod]
    exact ⟨hr.upto pkUp, g, off, row, rfl, rfl, hr⟩
end Go.Fg.X
