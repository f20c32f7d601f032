/- Walks of the functions that the statement reaches. No conditions: contracts and laws. -/
import Derived.Test.YtiiaocpkjmiacaaYA8
namespace Go.Fg.X
open Go.Proofs Go.Fg
set_option maxRecDepth 100000
set_option maxHeartbeats 4000000
set_option linter.unusedSimpArgs false
set_option linter.unusedVariables false
/-- The plain law: what the audit tells first is what the reference tells first. -/
def firstK (x : Cf) (l : List Ev) (i : Nat) : Option Nat := (List.range 8).find? (qAt x l i)
def goodC (x : Cf) : Prop := 1 ≤ x.t ∧ x.t ≤ 65536 ∧ 1 ≤ x.lmax ∧ x.lmax ≤ 16384
theorem pkMay_iff (p : Pk) (m : Int) (h : 1 ≤ m ∧ m ≤ 16384) : (pkMay p m != 0) = decide (p.len < 1 ∨ m < p.len) := by
  unfold pkMay
  rw [if_neg (by simpa using h)]
  split
  · rw [decide_eq_true (by omega)]; rfl
  · rw [decide_eq_false (by omega)]; rfl
theorem wrong_first (x : Cf) (l : List Ev) (n : Nat) (hx : goodC x) : wrongS x l n = match firstK x l n with | some k => errK k | none => 0 := by
  obtain ⟨h1, h2, h3, h4⟩ := hx
  obtain ⟨e, he⟩ : ∃ e, e = l.getD n default := ⟨_, rfl⟩
  have hf : firstK x l n = (List.range 8).find? (qAt x l n) := rfl
  rw [hf]
  simp only [show List.range 8 = [0, 1, 2, 3, 4, 5, 6, 7] from rfl, List.find?, qAt, ← he, qst]
  unfold wrongS
  rw [← he, pkMay_iff _ _ ⟨h3, h4⟩]
  have hpl : e.pk.len = e.len := rfl
  rw [hpl]
  by_cases c0 : e.op < 0 ∨ e.op < (lastE l n).op ∨ e.cls < 1
  · rw [if_pos (by omega), decide_eq_true c0]; rfl
  rw [if_neg (by omega), decide_eq_false c0]
  by_cases c1 : e.at_ < (lastE l n).at_ ∨ 4611686018427387904 < e.at_
  · rw [if_pos c1, decide_eq_true c1]; rfl
  rw [if_neg c1, decide_eq_false c1]
  by_cases c2 : e.len < 1 ∨ x.lmax < e.len
  · rw [if_pos c2, decide_eq_true c2]; rfl
  rw [if_neg c2, decide_eq_false c2]
  cases hi : e.inn with
  | true =>
    by_cases c3 : e.done ≠ 0 ∨ e.real = true
    · have : (e.done != 0 || e.real) = true := by simp at c3 ⊢; exact c3
      rw [if_pos c3, this]; rfl
    · have : (e.done != 0 || e.real) = false := by simp at c3 ⊢; exact c3
      rw [if_neg c3, this]; rfl
  | false =>
    by_cases c4 : (wAt l n e.cls).length = 0
    · rw [if_pos c4, c4]; rfl
    have c4' : ((wAt l n e.cls).length == 0) = false := by simpa using c4
    rw [if_neg c4, c4']
    cases c5 : pkEq ((wAt l n e.cls).getD 0 default) e.pk with
    | false => rfl
    | true =>
      by_cases c6 : e.at_ < doneE l n
      · rw [decide_eq_true c6]; simp [c6]; rfl
      have htk : tkV e.pk x.t = IntKind.u64.wrap (IntKind.u64.wrap x.t * IntKind.u64.wrap e.len) := by
        have e1 : IntKind.u64.wrap x.t = x.t := wrapu (by omega) (by omega)
        have e2 : IntKind.u64.wrap e.len = e.len := wrapu (by omega) (by omega)
        unfold tkV
        rw [hpl, if_pos (by omega), e1, e2, Int.mul_comm]
      rw [decide_eq_false c6, htk]
      by_cases c7 : e.done = IntKind.u64.wrap (e.at_ + IntKind.u64.wrap (IntKind.u64.wrap x.t * IntKind.u64.wrap e.len))
      · rw [bneF c7]; simp [c6, c7]
      · rw [bneT c7]; simp [c6, c7]; rfl
def firstI (x : Cf) (l : List Ev) : Option Nat := (List.range l.length).find? fun i => (firstK x l i).isSome
def checkV (x : Cf) (l : List Ev) : Int × Int := if 1 ≤ x.t ∧ x.t ≤ 65536 ∧ 1 ≤ x.lmax ∧ x.lmax ≤ 16384 then (match firstI x l with
  | some i => (i, match firstK x l i with
    | some k => errK k
    | none => 0)
  | none => (0, 0)) else (0, 7)
theorem find_range {n m : Nat} {p : Nat → Bool} (h1 : m < n) (h2 : p m = true) (h3 : ∀ k, k < m → p k = false) : (List.range n).find? p = some m := by
  rw [List.find?_range_eq_some]
  exact ⟨h2, by simpa using h1, fun j hj => by simpa using h3 j hj⟩
theorem find_range_none {n : Nat} {p : Nat → Bool} (h : ∀ k, k < n → p k = false) : (List.range n).find? p = none := by
  rw [List.find?_range_eq_none]
  intro i hi; simpa using h i hi
theorem checkR_V {x : Cf} {l : List Ev} {d : D} (h : CheckR x l d) (hx : goodC x) : d = .agg [dint (checkV x l).1, dint (checkV x l).2] := by
  have hx' : 1 ≤ x.t ∧ x.t ≤ 65536 ∧ 1 ≤ x.lmax ∧ x.lmax ≤ 16384 := hx
  unfold checkV
  rw [if_pos hx']
  rcases h with ⟨i, k, h1, h2, h3, h4, h5, rfl⟩ | ⟨h1, rfl⟩
  · have e1 : firstK x l i = some k := find_range h2 h5 h4
    have e2 : firstI x l = some i := find_range h1 (by rw [e1]; rfl) fun j hj => by
      rw [show firstK x l j = none from find_range_none (h3 j hj)]; rfl
    simp only [e2, e1]
  · have e2 : firstI x l = none := find_range_none fun j hj => by
      rw [show firstK x l j = none from find_range_none (h1 j hj)]; rfl
    rw [e2]
theorem check2_ok (x : Cf) (l : List Ev) (hl : l.length < 1000000) : AFn Try.prog 12 [.agg x.cells, evs l] (Ret (.agg [dint (checkV x l).1, dint (checkV x l).2])) :=
  (check_ok x l hl).mono fun d h ⟨h1, h2⟩ => by
    refine ⟨?_, h1⟩
    split at h2
    · exact checkR_V h2 ‹_›
    · rename_i hx
      rw [h2]; unfold checkV; rw [if_neg hx]
end Go.Fg.X
