/- Walks of the functions that the statement reaches. No conditions: contracts and laws. -/
import Derived.Test.YtiiaocpkjmiacaaGreatYHc
import Derived.Test.YtiiaocpkjmiacaaGreatPB1
namespace Go.Fg.X
open Go.Proofs Go.Fg
set_option maxRecDepth 100000
set_option maxHeartbeats 4000000
set_option linter.unusedSimpArgs false
set_option linter.unusedVariables false
def sharing (L : List Kls) (id : Int) : Bool := decide (1 < ofI ((findC L id).getD default).ls)
def setE (L : List Kls) (x : Kls) : Int :=
  if rightV x ≠ 0 then rightV x
  else if (findC L x.iD).isNone then 6
  else if x.parent ≠ ((findC L x.iD).getD default).parent ∨ x.leaf ≠ ((findC L x.iD).getD default).leaf then 1
  else if (1 < ofI x.ls ∧ sharesC L x.parent = false) ∨ (¬ 1 < ofI x.ls ∧ (childC L x.iD).any (sharing L) = true) then 29
  else 0
section
variable (h : List Ob) (t m c tb : Nat) {es : List Ent} {L : List Kls} (T : TreeIs es L)
  (ht : (h.map Ob.ro)[t]? = some ⟨.rone, 0, 1, 1, fun _ => [.mref m 0]⟩) (hm : (h.map Ob.ro)[m]? = some (mapOb .i64 c es).ro)
  (hb0 : (h.map Ob.ro)[tb]? = some ⟨.rone, 0, 1, 1, fun _ => [.ptr t 0 0 0]⟩)
include T ht hm hb0
theorem hset1_ok (id : Int) : RFn0 Tryz.prog 36 h [dint id, .ptr tb 0 0 0] (fun d => d = dbool (sharing L id)) := by
  have hk := T.look id
  unfold sharing
  cases hf : findC L id with
  | none =>
    rw [hf, Option.map_none] at hk
    refine RFn0_hx cx_ok 200 Tryz.func36 rfl Tryz.ntmps36 Tryz.results36 rfl fun base w pl F hF hFl hb => ?_
    rw [← hF] at ht hm hb0
    have ht_l := hlt ht
    have hm_l := hlt hm
    have hb0_l := hlt hb0
    simp only [go_sem, Nat.reduceAdd, Nat.reduceSub, Nat.reduceMul, Nat.reduceBEq, Nat.reduceLT, Nat.reduceLeDiff, Nat.reduceEqDiff, Int.reduceToNat, Int.reduceLE, Int.reduceLT, Int.reduceAdd, Int.reduceSub, Int.reduceNeg, Int.reduceBEq, Int.reduceBNe, Nat.reduceBNe, Nat.reduceDiv, Nat.reduceMod, hgetA, hgetL, hgetLk, hsetA, hsetL, hsetLk, List.length_append, List.length_set, List.append_assoc, List.set_set, ht, ht_l, hm, hm_l, hb0, hb0_l, hk]
    refine kont_call hb fn32 rfl ?_ (sshares_ok ⟨0, 0, false, ⟨0, 0, 0⟩, ⟨0, 0, 0⟩, ⟨0, 0, 0⟩, 0, 0⟩) (Ret.flat rfl) rfl fun d h hR => ?_
    · simp only [go_sem, Nat.reduceAdd, Nat.reduceSub, Nat.reduceMul, Nat.reduceBEq, Nat.reduceLT, Nat.reduceLeDiff, Nat.reduceEqDiff, Int.reduceToNat, Int.reduceLE, Int.reduceLT, Int.reduceAdd, Int.reduceSub, Int.reduceNeg, Int.reduceBEq, Int.reduceBNe, Nat.reduceBNe, Nat.reduceDiv, Nat.reduceMod, hgetA, hgetL, hgetLk, hsetA, hsetL, hsetLk, List.length_append, List.length_set, List.append_assoc, List.set_set]
    obtain ⟨rfl, rfl⟩ := hR
    refine kont_of_hx cx_ok hb 200 ?_
    simp only [go_sem, Nat.reduceAdd, Nat.reduceSub, Nat.reduceMul, Nat.reduceBEq, Nat.reduceLT, Nat.reduceLeDiff, Nat.reduceEqDiff, Int.reduceToNat, Int.reduceLE, Int.reduceLT, Int.reduceAdd, Int.reduceSub, Int.reduceNeg, Int.reduceBEq, Int.reduceBNe, Nat.reduceBNe, Nat.reduceDiv, Nat.reduceMod, hgetA, hgetL, hgetLk, hsetA, hsetL, hsetLk, List.length_append, List.length_set, List.append_assoc, List.set_set]
    exact ⟨[], (List.append_nil F).symm, rfl⟩
  | some x =>
    rw [hf, Option.map_some] at hk
    refine RFn0_hx cx_ok 200 Tryz.func36 rfl Tryz.ntmps36 Tryz.results36 rfl fun base w pl F hF hFl hb => ?_
    rw [← hF] at ht hm hb0
    have ht_l := hlt ht
    have hm_l := hlt hm
    have hb0_l := hlt hb0
    simp only [go_sem, Nat.reduceAdd, Nat.reduceSub, Nat.reduceMul, Nat.reduceBEq, Nat.reduceLT, Nat.reduceLeDiff, Nat.reduceEqDiff, Int.reduceToNat, Int.reduceLE, Int.reduceLT, Int.reduceAdd, Int.reduceSub, Int.reduceNeg, Int.reduceBEq, Int.reduceBNe, Nat.reduceBNe, Nat.reduceDiv, Nat.reduceMod, hgetA, hgetL, hgetLk, hsetA, hsetL, hsetLk, List.length_append, List.length_set, List.append_assoc, List.set_set, ht, ht_l, hm, hm_l, hb0, hb0_l, hk]
    refine kont_call hb fn32 rfl ?_ (sshares_ok x) (Ret.flat rfl) rfl fun d h hR => ?_
    · simp only [go_sem, Nat.reduceAdd, Nat.reduceSub, Nat.reduceMul, Nat.reduceBEq, Nat.reduceLT, Nat.reduceLeDiff, Nat.reduceEqDiff, Int.reduceToNat, Int.reduceLE, Int.reduceLT, Int.reduceAdd, Int.reduceSub, Int.reduceNeg, Int.reduceBEq, Int.reduceBNe, Nat.reduceBNe, Nat.reduceDiv, Nat.reduceMod, hgetA, hgetL, hgetLk, hsetA, hsetL, hsetLk, List.length_append, List.length_set, List.append_assoc, List.set_set]
    obtain ⟨rfl, rfl⟩ := hR
    refine kont_of_hx cx_ok hb 200 ?_
    simp only [go_sem, Nat.reduceAdd, Nat.reduceSub, Nat.reduceMul, Nat.reduceBEq, Nat.reduceLT, Nat.reduceLeDiff, Nat.reduceEqDiff, Int.reduceToNat, Int.reduceLE, Int.reduceLT, Int.reduceAdd, Int.reduceSub, Int.reduceNeg, Int.reduceBEq, Int.reduceBNe, Nat.reduceBNe, Nat.reduceDiv, Nat.reduceMod, hgetA, hgetL, hgetLk, hsetA, hsetL, hsetLk, List.length_append, List.length_set, List.append_assoc, List.set_set]
    exact ⟨[], by simp⟩
end
section
variable (h : List Ob) (t m c : Nat) {es : List Ent} {L : List Kls} (T : TreeIs es L) (hlen : L.length < 1000000)
  (ht : h[t]? = some ⟨.one, 0, 1, 1, fun _ => [.mref m 0]⟩) (hm : h[m]? = some (mapOb .i64 c es))
include T ht hm hlen
theorem hset_ok (x : Kls) : MFn Tryz.prog 14 h [.ptr t 0 0 0, dkl x] (fun d h' => d = dint (setE L x) ∧ TreeAt h t m (if setE L x = 0 then putC L x else L) h') := by
  have hk := T.look x.iD
  have ht_l := hlt ht
  have hm_l := hlt hm
  obtain ⟨E, hE0⟩ : ∃ E, E = setE L x := ⟨_, rfl⟩
  rw [← hE0]
  have bad : ∀ g : List Ob, E ≠ 0 → TreeAt h t m (if E = 0 then putC L x else L) (h ++ g) := fun g hne => by rw [if_neg hne]; exact TreeAt.same h t m c ht hm T g
  refine MFn_hx cx_ok 200 Tryz.func14 rfl Tryz.ntmps14 Tryz.results14 rfl fun base w pl hb => ?_
  have ht_l := hlt ht
  have hm_l := hlt hm
  simp only [go_sem, Nat.reduceAdd, Nat.reduceSub, Nat.reduceMul, Nat.reduceBEq, Nat.reduceLT, Nat.reduceLeDiff, Nat.reduceEqDiff, Int.reduceToNat, Int.reduceLE, Int.reduceLT, Int.reduceAdd, Int.reduceSub, Int.reduceNeg, Int.reduceBEq, Int.reduceBNe, Nat.reduceBNe, Nat.reduceDiv, Nat.reduceMod, hgetA, hgetL, hgetLk, hsetA, hsetL, hsetLk, List.length_append, List.length_set, List.append_assoc, List.set_set, ht, ht_l, hm, hm_l]
  refine kont_call hb fn31 rfl ?_ (sright_ok x) (Ret.flat rfl) rfl fun d h hR => ?_
  · simp only [go_sem, Nat.reduceAdd, Nat.reduceSub, Nat.reduceMul, Nat.reduceBEq, Nat.reduceLT, Nat.reduceLeDiff, Nat.reduceEqDiff, Int.reduceToNat, Int.reduceLE, Int.reduceLT, Int.reduceAdd, Int.reduceSub, Int.reduceNeg, Int.reduceBEq, Int.reduceBNe, Nat.reduceBNe, Nat.reduceDiv, Nat.reduceMod, hgetA, hgetL, hgetLk, hsetA, hsetL, hsetLk, List.length_append, List.length_set, List.append_assoc, List.set_set]
  obtain ⟨rfl, rfl⟩ := hR
  refine kont_of_hx cx_ok hb 200 ?_
  simp only [go_sem, Nat.reduceAdd, Nat.reduceSub, Nat.reduceMul, Nat.reduceBEq, Nat.reduceLT, Nat.reduceLeDiff, Nat.reduceEqDiff, Int.reduceToNat, Int.reduceLE, Int.reduceLT, Int.reduceAdd, Int.reduceSub, Int.reduceNeg, Int.reduceBEq, Int.reduceBNe, Nat.reduceBNe, Nat.reduceDiv, Nat.reduceMod, hgetA, hgetL, hgetLk, hsetA, hsetL, hsetLk, List.length_append, List.length_set, List.append_assoc, List.set_set]
  by_cases h0 : rightV x = 0
  case neg =>
    have e : E = rightV x := by rw [hE0, setE, if_pos h0]
    simp only [go_sem, Nat.reduceAdd, Nat.reduceSub, Nat.reduceMul, Nat.reduceBEq, Nat.reduceLT, Nat.reduceLeDiff, Nat.reduceEqDiff, Int.reduceToNat, Int.reduceLE, Int.reduceLT, Int.reduceAdd, Int.reduceSub, Int.reduceNeg, Int.reduceBEq, Int.reduceBNe, Nat.reduceBNe, Nat.reduceDiv, Nat.reduceMod, hgetA, hgetL, hgetLk, hsetA, hsetL, hsetLk, List.length_append, List.length_set, List.append_assoc, List.set_set, beqF h0, bne]
    exact ⟨by rw [e], bad _ (by rw [e]; exact h0)⟩
  simp only [go_sem, Nat.reduceAdd, Nat.reduceSub, Nat.reduceMul, Nat.reduceBEq, Nat.reduceLT, Nat.reduceLeDiff, Nat.reduceEqDiff, Int.reduceToNat, Int.reduceLE, Int.reduceLT, Int.reduceAdd, Int.reduceSub, Int.reduceNeg, Int.reduceBEq, Int.reduceBNe, Nat.reduceBNe, Nat.reduceDiv, Nat.reduceMod, hgetA, hgetL, hgetLk, hsetA, hsetL, hsetLk, List.length_append, List.length_set, List.append_assoc, List.set_set, beqT h0, bne]
  cases hf1 : findC L x.iD with
  | none =>
    have e : E = 6 := by rw [hE0, setE, if_neg (by simpa using h0), if_pos (by simp [hf1])]
    rw [hf1, Option.map_none] at hk
    refine kont_hax cx_ok hb 200 mixed [(0, true), (1, true), (2, true), (3, true), (4, true), (5, true), (6, true), (7, true), (8, true), (9, true), (10, false), (11, false), (12, true)] (by kernel_rfl) (by kernel_rfl) ?_
    simp only [go_sem, Nat.reduceAdd, Nat.reduceSub, Nat.reduceMul, Nat.reduceBEq, Nat.reduceLT, Nat.reduceLeDiff, Nat.reduceEqDiff, Int.reduceToNat, Int.reduceLE, Int.reduceLT, Int.reduceAdd, Int.reduceSub, Int.reduceNeg, Int.reduceBEq, Int.reduceBNe, Nat.reduceBNe, Nat.reduceDiv, Nat.reduceMod, hgetA, hgetL, hgetLk, hsetA, hsetL, hsetLk, List.length_append, List.length_set, List.append_assoc, List.set_set, ht, hm, ht_l, hm_l, hk]
    exact ⟨by rw [e], bad _ (by rw [e]; decide)⟩
  | some y =>
    rw [hf1, Option.map_some] at hk
    have a1 : E = (if x.parent ≠ y.parent ∨ x.leaf ≠ y.leaf then 1 else if (1 < ofI x.ls ∧ sharesC L x.parent = false) ∨ (¬ 1 < ofI x.ls ∧ (childC L x.iD).any (sharing L) = true) then 29 else 0) := by
      rw [hE0, setE, if_neg (by simpa using h0), if_neg (by simp [hf1]), hf1]; rfl
    by_cases hp : x.parent = y.parent
    case neg =>
      have e : E = 1 := by rw [a1, if_pos (.inl hp)]
      refine kont_hax cx_ok hb 200 mixed [(0, true), (1, true), (2, true), (3, true), (4, true), (5, true), (6, true), (7, true), (8, true), (9, true), (10, false), (11, false), (12, true)] (by kernel_rfl) (by kernel_rfl) ?_
      simp only [go_sem, Nat.reduceAdd, Nat.reduceSub, Nat.reduceMul, Nat.reduceBEq, Nat.reduceLT, Nat.reduceLeDiff, Nat.reduceEqDiff, Int.reduceToNat, Int.reduceLE, Int.reduceLT, Int.reduceAdd, Int.reduceSub, Int.reduceNeg, Int.reduceBEq, Int.reduceBNe, Nat.reduceBNe, Nat.reduceDiv, Nat.reduceMod, hgetA, hgetL, hgetLk, hsetA, hsetL, hsetLk, List.length_append, List.length_set, List.append_assoc, List.set_set, ht, hm, ht_l, hm_l, hk, beqF hp, bne]
      exact ⟨by rw [e], bad _ (by rw [e]; decide)⟩
    by_cases hl : x.leaf = y.leaf
    case neg =>
      have e : E = 1 := by rw [a1, if_pos (.inr hl)]
      have hl2 : (x.leaf == y.leaf) = false := by simpa using hl
      refine kont_hax cx_ok hb 200 mixed [(0, true), (1, true), (2, true), (3, true), (4, true), (5, true), (6, true), (7, true), (8, true), (9, true), (10, false), (11, false), (12, true)] (by kernel_rfl) (by kernel_rfl) ?_
      simp only [go_sem, Nat.reduceAdd, Nat.reduceSub, Nat.reduceMul, Nat.reduceBEq, Nat.reduceLT, Nat.reduceLeDiff, Nat.reduceEqDiff, Int.reduceToNat, Int.reduceLE, Int.reduceLT, Int.reduceAdd, Int.reduceSub, Int.reduceNeg, Int.reduceBEq, Int.reduceBNe, Nat.reduceBNe, Nat.reduceDiv, Nat.reduceMod, hgetA, hgetL, hgetLk, hsetA, hsetL, hsetLk, List.length_append, List.length_set, List.append_assoc, List.set_set, ht, hm, ht_l, hm_l, hk, beqT hp, bne, hl2]
      exact ⟨by rw [e], bad _ (by rw [e]; decide)⟩
    have hl2 : (x.leaf == y.leaf) = true := by simpa using hl
    rw [if_neg (by simp [hp, hl])] at a1
    refine kont_hax cx_ok hb 200 mixed [(0, true), (1, true), (2, true), (3, true), (4, true), (5, true), (6, true), (7, true), (8, true), (9, true), (10, false), (11, false), (12, true)] (by kernel_rfl) (by kernel_rfl) ?_
    simp only [go_sem, Nat.reduceAdd, Nat.reduceSub, Nat.reduceMul, Nat.reduceBEq, Nat.reduceLT, Nat.reduceLeDiff, Nat.reduceEqDiff, Int.reduceToNat, Int.reduceLE, Int.reduceLT, Int.reduceAdd, Int.reduceSub, Int.reduceNeg, Int.reduceBEq, Int.reduceBNe, Nat.reduceBNe, Nat.reduceDiv, Nat.reduceMod, hgetA, hgetL, hgetLk, hsetA, hsetL, hsetLk, List.length_append, List.length_set, List.append_assoc, List.set_set, ht, hm, ht_l, hm_l, hk, beqT hp, bne, hl2]
    refine kont_call hb fn32 rfl ?_ (sshares_ok x) (Ret.flat rfl) rfl fun d h hR => ?_
    · simp only [go_sem, Nat.reduceAdd, Nat.reduceSub, Nat.reduceMul, Nat.reduceBEq, Nat.reduceLT, Nat.reduceLeDiff, Nat.reduceEqDiff, Int.reduceToNat, Int.reduceLE, Int.reduceLT, Int.reduceAdd, Int.reduceSub, Int.reduceNeg, Int.reduceBEq, Int.reduceBNe, Nat.reduceBNe, Nat.reduceDiv, Nat.reduceMod, hgetA, hgetL, hgetLk, hsetA, hsetL, hsetLk, List.length_append, List.length_set, List.append_assoc, List.set_set]
    obtain ⟨rfl, rfl⟩ := hR
    refine kont_of_hx cx_ok hb 200 ?_
    simp only [go_sem, Nat.reduceAdd, Nat.reduceSub, Nat.reduceMul, Nat.reduceBEq, Nat.reduceLT, Nat.reduceLeDiff, Nat.reduceEqDiff, Int.reduceToNat, Int.reduceLE, Int.reduceLT, Int.reduceAdd, Int.reduceSub, Int.reduceNeg, Int.reduceBEq, Int.reduceBNe, Nat.reduceBNe, Nat.reduceDiv, Nat.reduceMod, hgetA, hgetL, hgetLk, hsetA, hsetL, hsetLk, List.length_append, List.length_set, List.append_assoc, List.set_set]
    cases hs1 : decide (1 < ofI x.ls)
    · have hs1' : ¬ 1 < ofI x.ls := by simpa using hs1
      simp only [go_sem, Nat.reduceAdd, Nat.reduceSub, Nat.reduceMul, Nat.reduceBEq, Nat.reduceLT, Nat.reduceLeDiff, Nat.reduceEqDiff, Int.reduceToNat, Int.reduceLE, Int.reduceLT, Int.reduceAdd, Int.reduceSub, Int.reduceNeg, Int.reduceBEq, Int.reduceBNe, Nat.reduceBNe, Nat.reduceDiv, Nat.reduceMod, hgetA, hgetL, hgetLk, hsetA, hsetL, hsetLk, List.length_append, List.length_set, List.append_assoc, List.set_set, Go.undef]
      refine kont_call hb fn32 rfl ?_ (sshares_ok x) (Ret.flat rfl) rfl fun d h hR => ?_
      · simp only [go_sem, Nat.reduceAdd, Nat.reduceSub, Nat.reduceMul, Nat.reduceBEq, Nat.reduceLT, Nat.reduceLeDiff, Nat.reduceEqDiff, Int.reduceToNat, Int.reduceLE, Int.reduceLT, Int.reduceAdd, Int.reduceSub, Int.reduceNeg, Int.reduceBEq, Int.reduceBNe, Nat.reduceBNe, Nat.reduceDiv, Nat.reduceMod, hgetA, hgetL, hgetLk, hsetA, hsetL, hsetLk, List.length_append, List.length_set, List.append_assoc, List.set_set, hs1, Go.undef]
      obtain ⟨rfl, rfl⟩ := hR
      refine kont_of_hx cx_ok hb 200 ?_
      simp only [go_sem, Nat.reduceAdd, Nat.reduceSub, Nat.reduceMul, Nat.reduceBEq, Nat.reduceLT, Nat.reduceLeDiff, Nat.reduceEqDiff, Int.reduceToNat, Int.reduceLE, Int.reduceLT, Int.reduceAdd, Int.reduceSub, Int.reduceNeg, Int.reduceBEq, Int.reduceBNe, Nat.reduceBNe, Nat.reduceDiv, Nat.reduceMod, hgetA, hgetL, hgetLk, hsetA, hsetL, hsetLk, List.length_append, List.length_set, List.append_assoc, List.set_set, hs1, Go.undef]
      refine kont_callR hb fn35 rfl ?_ (hchildren_ok _ t m c T hlen (ro_app ht) (ro_app hm) x.iD) rfl fun d g hs => ?_
      · simp only [go_sem, Nat.reduceAdd, Nat.reduceSub, Nat.reduceMul, Nat.reduceBEq, Nat.reduceLT, Nat.reduceLeDiff, Nat.reduceEqDiff, Int.reduceToNat, Int.reduceLE, Int.reduceLT, Int.reduceAdd, Int.reduceSub, Int.reduceNeg, Int.reduceBEq, Int.reduceBNe, Nat.reduceBNe, Nat.reduceDiv, Nat.reduceMod]
      rcases hs with ⟨rfl, hc0⟩ | ⟨lo, gn, off, row, rfl, hlo, ho, hr⟩
      · have e : E = 0 := by rw [a1, if_neg (by rintro (⟨h1, _⟩ | ⟨_, h1⟩); exact hs1' h1; rw [hc0] at h1; simp at h1)]
        refine kont_of_hx cx_ok hb 200 ?_
        simp only [go_sem, Nat.reduceAdd, Nat.reduceSub, Nat.reduceMul, Nat.reduceBEq, Nat.reduceLT, Nat.reduceLeDiff, Nat.reduceEqDiff, Int.reduceToNat, Int.reduceLE, Int.reduceLT, Int.reduceAdd, Int.reduceSub, Int.reduceNeg, Int.reduceBEq, Int.reduceBNe, Nat.reduceBNe, Nat.reduceDiv, Nat.reduceMod, hgetA, hgetL, hgetLk, hsetA, hsetL, hsetLk, List.length_append, List.length_set, List.append_assoc, List.set_set, ht, hm, ht_l, hm_l]
        refine kont_callR0 hb fn37 rfl ?_ (containsFuncN_ok _ (.clo 36 0 [.ptr h.length 0 0 0])) rfl fun d hR => ?_
        · simp only [go_sem, Nat.reduceAdd, Nat.reduceSub, Nat.reduceMul, Nat.reduceBEq, Nat.reduceLT, Nat.reduceLeDiff, Nat.reduceEqDiff, Int.reduceToNat, Int.reduceLE, Int.reduceLT, Int.reduceAdd, Int.reduceSub, Int.reduceNeg, Int.reduceBEq, Int.reduceBNe, Nat.reduceBNe, Nat.reduceDiv, Nat.reduceMod, hgetA, hgetL, hgetLk, hsetA, hsetL, hsetLk, List.length_append, List.length_set, List.append_assoc, List.set_set, Go.undef]
        subst hR
        refine kont_of_hx cx_ok hb 200 ?_
        simp only [go_sem, Nat.reduceAdd, Nat.reduceSub, Nat.reduceMul, Nat.reduceBEq, Nat.reduceLT, Nat.reduceLeDiff, Nat.reduceEqDiff, Int.reduceToNat, Int.reduceLE, Int.reduceLT, Int.reduceAdd, Int.reduceSub, Int.reduceNeg, Int.reduceBEq, Int.reduceBNe, Nat.reduceBNe, Nat.reduceDiv, Nat.reduceMod, hgetA, hgetL, hgetLk, hsetA, hsetL, hsetLk, List.length_append, List.length_set, List.append_assoc, List.set_set, Go.undef]
        refine kont_hax cx_ok hb 200 mixed [(0, true), (1, true), (2, true), (3, true), (4, true), (5, true), (6, true), (7, false)] (by kernel_rfl) (by kernel_rfl) ?_
        simp only [go_sem, Nat.reduceAdd, Nat.reduceSub, Nat.reduceMul, Nat.reduceBEq, Nat.reduceLT, Nat.reduceLeDiff, Nat.reduceEqDiff, Int.reduceToNat, Int.reduceLE, Int.reduceLT, Int.reduceAdd, Int.reduceSub, Int.reduceNeg, Int.reduceBEq, Int.reduceBNe, Nat.reduceBNe, Nat.reduceDiv, Nat.reduceMod, hgetA, hgetL, hgetLk, hsetA, hsetL, hsetLk, List.length_append, List.length_set, List.append_assoc, List.set_set, ht, hm, ht_l, hm_l]
        rw [if_pos e]
        exact ⟨by rw [e], TreeAt.upd h t m c T ht hm x _⟩
      · refine kont_of_hx cx_ok hb 200 ?_
        have hcl : (childC L x.iD).length < 1000000 := by
          have := List.length_filter_le (fun y : Kls => y.parent == x.iD) L
          unfold childC; rw [List.length_map]; omega
        rw [List.append_assoc] at ho
        simp only [go_sem, Nat.reduceAdd, Nat.reduceSub, Nat.reduceMul, Nat.reduceBEq, Nat.reduceLT, Nat.reduceLeDiff, Nat.reduceEqDiff, Int.reduceToNat, Int.reduceLE, Int.reduceLT, Int.reduceAdd, Int.reduceSub, Int.reduceNeg, Int.reduceBEq, Int.reduceBNe, Nat.reduceBNe, Nat.reduceDiv, Nat.reduceMod, hgetA, hgetL, hgetLk, hsetA, hsetL, hsetLk, List.length_append, List.length_set, List.append_assoc, List.set_set, ht, hm, ht_l, hm_l]
        refine kont_callR0 hb fn37 rfl ?_ (containsFunc_ok _ (childC L x.iD) lo gn off row hcl (ro_get ho) hr (.clo 36 0 [.ptr h.length 0 0 0]) 36 0 [.ptr h.length 0 0 0] fn36 rfl (sharing L) (fun h' n hx => hset1_ok h' t m c h.length T (ro_get (hx.get (ro_app ht))) (roro_get (hx.get (ro_app hm))) (ro_get (hx.get (ro_get (o := ⟨.one, 0, 1, 1, fun _ => [.ptr t 0 0 0]⟩) (by rw [hgetL rfl]; rfl)))) n)) rfl fun d hR => ?_
        · simp only [go_sem, Nat.reduceAdd, Nat.reduceSub, Nat.reduceMul, Nat.reduceBEq, Nat.reduceLT, Nat.reduceLeDiff, Nat.reduceEqDiff, Int.reduceToNat, Int.reduceLE, Int.reduceLT, Int.reduceAdd, Int.reduceSub, Int.reduceNeg, Int.reduceBEq, Int.reduceBNe, Nat.reduceBNe, Nat.reduceDiv, Nat.reduceMod, hgetA, hgetL, hgetLk, hsetA, hsetL, hsetLk, List.length_append, List.length_set, List.append_assoc, List.set_set, Go.undef, firstI_any]
        subst hR
        refine kont_of_hx cx_ok hb 200 ?_
        simp only [go_sem, Nat.reduceAdd, Nat.reduceSub, Nat.reduceMul, Nat.reduceBEq, Nat.reduceLT, Nat.reduceLeDiff, Nat.reduceEqDiff, Int.reduceToNat, Int.reduceLE, Int.reduceLT, Int.reduceAdd, Int.reduceSub, Int.reduceNeg, Int.reduceBEq, Int.reduceBNe, Nat.reduceBNe, Nat.reduceDiv, Nat.reduceMod, hgetA, hgetL, hgetLk, hsetA, hsetL, hsetLk, List.length_append, List.length_set, List.append_assoc, List.set_set, Go.undef, firstI_any]
        cases hany : (childC L x.iD).any (sharing L)
        · have e : E = 0 := by rw [a1, if_neg (by rw [hany]; simp [hs1'])]
          simp only [go_sem, Nat.reduceAdd, Nat.reduceSub, Nat.reduceMul, Nat.reduceBEq, Nat.reduceLT, Nat.reduceLeDiff, Nat.reduceEqDiff, Int.reduceToNat, Int.reduceLE, Int.reduceLT, Int.reduceAdd, Int.reduceSub, Int.reduceNeg, Int.reduceBEq, Int.reduceBNe, Nat.reduceBNe, Nat.reduceDiv, Nat.reduceMod, hgetA, hgetL, hgetLk, hsetA, hsetL, hsetLk, List.length_append, List.length_set, List.append_assoc, List.set_set, Go.undef]
          refine kont_hax cx_ok hb 200 mixed [(0, true), (1, true), (2, true), (3, true), (4, true), (5, true), (6, true), (7, false)] (by kernel_rfl) (by kernel_rfl) ?_
          simp only [go_sem, Nat.reduceAdd, Nat.reduceSub, Nat.reduceMul, Nat.reduceBEq, Nat.reduceLT, Nat.reduceLeDiff, Nat.reduceEqDiff, Int.reduceToNat, Int.reduceLE, Int.reduceLT, Int.reduceAdd, Int.reduceSub, Int.reduceNeg, Int.reduceBEq, Int.reduceBNe, Nat.reduceBNe, Nat.reduceDiv, Nat.reduceMod, hgetA, hgetL, hgetLk, hsetA, hsetL, hsetLk, List.length_append, List.length_set, List.append_assoc, List.set_set, ht, hm, ht_l, hm_l]
          rw [if_pos e]
          exact ⟨by rw [e], TreeAt.upd h t m c T ht hm x _⟩
        · have e : E = 29 := by rw [a1, if_pos (.inr ⟨hs1', hany⟩)]
          simp only [go_sem, Nat.reduceAdd, Nat.reduceSub, Nat.reduceMul, Nat.reduceBEq, Nat.reduceLT, Nat.reduceLeDiff, Nat.reduceEqDiff, Int.reduceToNat, Int.reduceLE, Int.reduceLT, Int.reduceAdd, Int.reduceSub, Int.reduceNeg, Int.reduceBEq, Int.reduceBNe, Nat.reduceBNe, Nat.reduceDiv, Nat.reduceMod, hgetA, hgetL, hgetLk, hsetA, hsetL, hsetLk, List.length_append, List.length_set, List.append_assoc, List.set_set, Go.undef]
          exact ⟨by rw [e], bad _ (by rw [e]; decide)⟩
    · have hs1' : 1 < ofI x.ls := by simpa using hs1
      simp only [go_sem, Nat.reduceAdd, Nat.reduceSub, Nat.reduceMul, Nat.reduceBEq, Nat.reduceLT, Nat.reduceLeDiff, Nat.reduceEqDiff, Int.reduceToNat, Int.reduceLE, Int.reduceLT, Int.reduceAdd, Int.reduceSub, Int.reduceNeg, Int.reduceBEq, Int.reduceBNe, Nat.reduceBNe, Nat.reduceDiv, Nat.reduceMod, hgetA, hgetL, hgetLk, hsetA, hsetL, hsetLk, List.length_append, List.length_set, List.append_assoc, List.set_set, Go.undef]
      refine kont_callR0 hb fn33 rfl ?_ (hshares_ok _ t m c T (ro_app ht) (ro_app hm) x.parent) rfl fun d hR => ?_
      · simp only [go_sem, Nat.reduceAdd, Nat.reduceSub, Nat.reduceMul, Nat.reduceBEq, Nat.reduceLT, Nat.reduceLeDiff, Nat.reduceEqDiff, Int.reduceToNat, Int.reduceLE, Int.reduceLT, Int.reduceAdd, Int.reduceSub, Int.reduceNeg, Int.reduceBEq, Int.reduceBNe, Nat.reduceBNe, Nat.reduceDiv, Nat.reduceMod, hgetA, hgetL, hgetLk, hsetA, hsetL, hsetLk, List.length_append, List.length_set, List.append_assoc, List.set_set]
      subst hR
      refine kont_of_hx cx_ok hb 200 ?_
      simp only [go_sem, Nat.reduceAdd, Nat.reduceSub, Nat.reduceMul, Nat.reduceBEq, Nat.reduceLT, Nat.reduceLeDiff, Nat.reduceEqDiff, Int.reduceToNat, Int.reduceLE, Int.reduceLT, Int.reduceAdd, Int.reduceSub, Int.reduceNeg, Int.reduceBEq, Int.reduceBNe, Nat.reduceBNe, Nat.reduceDiv, Nat.reduceMod, hgetA, hgetL, hgetLk, hsetA, hsetL, hsetLk, List.length_append, List.length_set, List.append_assoc, List.set_set]
      cases hs2 : sharesC L x.parent
      · have e : E = 29 := by rw [a1, if_pos (.inl ⟨hs1', hs2⟩)]
        simp only [go_sem, Nat.reduceAdd, Nat.reduceSub, Nat.reduceMul, Nat.reduceBEq, Nat.reduceLT, Nat.reduceLeDiff, Nat.reduceEqDiff, Int.reduceToNat, Int.reduceLE, Int.reduceLT, Int.reduceAdd, Int.reduceSub, Int.reduceNeg, Int.reduceBEq, Int.reduceBNe, Nat.reduceBNe, Nat.reduceDiv, Nat.reduceMod, hgetA, hgetL, hgetLk, hsetA, hsetL, hsetLk, List.length_append, List.length_set, List.append_assoc, List.set_set, Go.undef]
        exact ⟨by rw [e], bad _ (by rw [e]; decide)⟩
      · have e : E = 0 := by rw [a1, if_neg (by rw [hs2]; simp [hs1'])]
        simp only [go_sem, Nat.reduceAdd, Nat.reduceSub, Nat.reduceMul, Nat.reduceBEq, Nat.reduceLT, Nat.reduceLeDiff, Nat.reduceEqDiff, Int.reduceToNat, Int.reduceLE, Int.reduceLT, Int.reduceAdd, Int.reduceSub, Int.reduceNeg, Int.reduceBEq, Int.reduceBNe, Nat.reduceBNe, Nat.reduceDiv, Nat.reduceMod, hgetA, hgetL, hgetLk, hsetA, hsetL, hsetLk, List.length_append, List.length_set, List.append_assoc, List.set_set, Go.undef]
        refine kont_call hb fn32 rfl ?_ (sshares_ok x) (Ret.flat rfl) rfl fun d h hR => ?_
        · simp only [go_sem, Nat.reduceAdd, Nat.reduceSub, Nat.reduceMul, Nat.reduceBEq, Nat.reduceLT, Nat.reduceLeDiff, Nat.reduceEqDiff, Int.reduceToNat, Int.reduceLE, Int.reduceLT, Int.reduceAdd, Int.reduceSub, Int.reduceNeg, Int.reduceBEq, Int.reduceBNe, Nat.reduceBNe, Nat.reduceDiv, Nat.reduceMod, hgetA, hgetL, hgetLk, hsetA, hsetL, hsetLk, List.length_append, List.length_set, List.append_assoc, List.set_set, hs1, Go.undef]
        obtain ⟨rfl, rfl⟩ := hR
        refine kont_of_hx cx_ok hb 200 ?_
        simp only [go_sem, Nat.reduceAdd, Nat.reduceSub, Nat.reduceMul, Nat.reduceBEq, Nat.reduceLT, Nat.reduceLeDiff, Nat.reduceEqDiff, Int.reduceToNat, Int.reduceLE, Int.reduceLT, Int.reduceAdd, Int.reduceSub, Int.reduceNeg, Int.reduceBEq, Int.reduceBNe, Nat.reduceBNe, Nat.reduceDiv, Nat.reduceMod, hgetA, hgetL, hgetLk, hsetA, hsetL, hsetLk, List.length_append, List.length_set, List.append_assoc, List.set_set, hs1, Go.undef]
        refine kont_hax cx_ok hb 200 mixed [(0, true), (1, true), (2, true), (3, true), (4, true), (5, true), (6, true), (7, false)] (by kernel_rfl) (by kernel_rfl) ?_
        simp only [go_sem, Nat.reduceAdd, Nat.reduceSub, Nat.reduceMul, Nat.reduceBEq, Nat.reduceLT, Nat.reduceLeDiff, Nat.reduceEqDiff, Int.reduceToNat, Int.reduceLE, Int.reduceLT, Int.reduceAdd, Int.reduceSub, Int.reduceNeg, Int.reduceBEq, Int.reduceBNe, Nat.reduceBNe, Nat.reduceDiv, Nat.reduceMod, hgetA, hgetL, hgetLk, hsetA, hsetL, hsetLk, List.length_append, List.length_set, List.append_assoc, List.set_set, ht, hm, ht_l, hm_l]
        rw [if_pos e]
        exact ⟨by rw [e], TreeAt.upd h t m c T ht hm x _⟩
end
end Go.Fg.X
namespace Go.Fg.X
open Go.Proofs Go.Fg
set_option maxRecDepth 100000
set_option maxHeartbeats 4000000
set_option linter.unusedSimpArgs false
set_option linter.unusedVariables false
theorem findC_put {L : List Kls} (h : Rising L) (x : Kls) (k : Int) : findC (putC L x) k = if k = x.iD then some x else findC L k := by
  have hr := putC_rising x h
  have hm := fun c => (putC_perm x h).mem_iff (a := c)
  by_cases hk : k = x.iD
  · rw [if_pos hk]
    exact (findC_iff hr).2 ⟨(hm x).2 (by simp), hk.symm⟩
  · rw [if_neg hk]
    cases hf : findC L k with
    | some c =>
      obtain ⟨h1, h2⟩ := (findC_iff h).1 hf
      exact (findC_iff hr).2 ⟨(hm c).2 (List.mem_cons.2 (.inr (List.mem_filter.2 ⟨h1, by simp; omega⟩))), h2⟩
    | none =>
      rw [findC_none] at hf ⊢
      intro c hc
      rcases List.mem_cons.1 ((hm c).1 hc) with rfl | hc
      · exact fun e => hk e.symm
      · exact hf c (List.mem_filter.1 hc).1
theorem findC_del {L : List Kls} (h : Rising L) (k0 k : Int) : findC (delC L k0) k = if k = k0 then none else findC L k := by
  have hr := delC_rising k0 h
  by_cases hk : k = k0
  · rw [if_pos hk, findC_none]
    intro c hc
    have := (List.mem_filter.1 hc).2
    simp at this; omega
  · rw [if_neg hk]
    cases hf : findC L k with
    | some c =>
      obtain ⟨h1, h2⟩ := (findC_iff h).1 hf
      exact (findC_iff hr).2 ⟨List.mem_filter.2 ⟨h1, by simp; omega⟩, h2⟩
    | none =>
      rw [findC_none] at hf ⊢
      exact fun c hc => hf c (List.mem_filter.1 hc).1
theorem Ends.succ {L : List Kls} : ∀ {n : Nat} {id : Int}, Ends L n id → Ends L (n + 1) id
  | 0, id, h => by simp only [Ends] at h ⊢; rw [h]; trivial
  | n + 1, id, h => by
    rw [Ends] at h ⊢
    cases hf : findC L id with
    | none => trivial
    | some c => rw [hf] at h; exact Ends.succ h
theorem Ends.le {L : List Kls} {n k : Nat} {id : Int} (h : Ends L n id) (hk : n ≤ k) : Ends L k id := by
  induction hk with
  | refl => exact h
  | step _ ih => exact ih.succ
theorem upF_succ {L : List Kls} : ∀ {n : Nat} {id : Int}, Ends L n id → upF L (n + 1) id = upF L n id
  | 0, id, h => by simp only [Ends] at h; simp only [upF, h]
  | n + 1, id, h => by
    rw [Ends] at h
    rw [upF]
    conv => rhs; rw [upF]
    cases hf : findC L id with
    | none => rfl
    | some c => rw [hf] at h; simp only [upF_succ h]
theorem upF_le {L : List Kls} {n k : Nat} {id : Int} (h : Ends L n id) (hk : n ≤ k) : upF L k id = upF L n id := by
  induction hk with
  | refl => rfl
  | step hk ih => rw [upF_succ (h.le hk), ih]
theorem upF_len {L : List Kls} : ∀ {n : Nat} {id : Int}, (upF L n id).length ≤ n
  | 0, _ => Nat.le_refl _
  | n + 1, id => by
    rw [upF]
    cases findC L id with
    | none => exact Nat.zero_le _
    | some c => have := upF_len (L := L) (n := n) (id := c.parent); simp only [List.length_cons]; omega
theorem Ends.short {L : List Kls} : ∀ {n k : Nat} {id : Int}, Ends L n id → (upF L n id).length ≤ k → Ends L k id
  | 0, k, id, h, _ => h.le (Nat.zero_le _)
  | n + 1, k, id, h, hk => by
    rw [Ends] at h
    rw [upF] at hk
    cases hf : findC L id with
    | none => cases k with
      | zero => exact hf
      | succ k => rw [Ends, hf]; trivial
    | some c =>
      rw [hf] at h hk
      simp only [List.length_cons] at hk
      cases k with
      | zero => omega
      | succ k => rw [Ends, hf]; exact Ends.short h (by omega)
/-- What always holds of a tree. -/
structure TreeInv (L : List Kls) : Prop where
  rising : Rising L
  ids : ∀ c ∈ L, 1 ≤ c.iD
  par : ∀ c ∈ L, c.parent = 0 ∨ (findC L c.parent).isSome = true
  ends : ∀ id, Ends L 16 id
theorem TreeInv.nil : TreeInv [] := ⟨by simp [Rising], by simp, by simp, fun id => by simp [Ends, findC]⟩
end Go.Fg.X
namespace Go.Fg.X
open Go.Proofs Go.Fg
set_option maxRecDepth 100000
set_option maxHeartbeats 4000000
set_option linter.unusedSimpArgs false
set_option linter.unusedVariables false
theorem right_id {x : Kls} (h : rightV x = 0) : 1 ≤ x.iD ∧ x.iD ≤ 65536 ∧ x.parent ≠ x.iD := by
  have h2 : idOk x = true := by
    cases h3 : idOk x with
    | true => rfl
    | false => rw [rightV, h3] at h; simp at h
  simp [idOk, frI] at h2
  exact ⟨h2.1.1.1, h2.1.1.2, h2.2⟩
theorem some_put {L : List Kls} (h : Rising L) (x : Kls) {k : Int} (hk : (findC L k).isSome = true) : (findC (putC L x) k).isSome = true := by
  rw [findC_put h]; split
  · rfl
  · exact hk
theorem mem_put {L : List Kls} (h : Rising L) (x : Kls) {c : Kls} (hc : c ∈ putC L x) : c = x ∨ c ∈ L := by
  rcases List.mem_cons.1 ((putC_perm x h).mem_iff.1 hc) with h1 | h1
  · exact .inl h1
  · exact .inr (List.mem_filter.1 h1).1
theorem TreeInv.add {L : List Kls} (I : TreeInv L) {x : Kls} (h0 : rightV x = 0) (h1 : findC L x.iD = none) (h2 : x.parent = 0 ∨ (findC L x.parent).isSome = true) (h3 : (upF L 16 x.parent).length ≠ 16) : TreeInv (putC L x) := by
  obtain ⟨i1, _, i3⟩ := right_id h0
  have key : ∀ n id, id ≠ x.iD → Ends L n id → Ends (putC L x) n id := by
    intro n
    induction n with
    | zero => intro id hid h; rw [Ends] at h ⊢; rw [findC_put I.rising, if_neg hid]; exact h
    | succ n ih =>
      intro id hid h
      rw [Ends] at h ⊢
      rw [findC_put I.rising, if_neg hid]
      cases hf : findC L id with
      | none => trivial
      | some c =>
        rw [hf] at h
        refine ih _ ?_ h
        rcases I.par c ((findC_iff I.rising).1 hf).1 with hp | hp
        · rw [hp]; omega
        · intro e; rw [e, h1] at hp; cases hp
  refine ⟨putC_rising x I.rising, fun c hc => ?_, fun c hc => ?_, fun id => ?_⟩
  · rcases mem_put I.rising x hc with rfl | hc
    · exact i1
    · exact I.ids c hc
  · rcases mem_put I.rising x hc with rfl | hc
    · exact h2.imp id fun h => some_put I.rising c h
    · exact (I.par c hc).imp id fun h => some_put I.rising x h
  · by_cases hid : id = x.iD
    · subst hid
      rw [Ends, findC_put I.rising, if_pos rfl]
      refine key 15 _ i3 ((I.ends x.parent).short ?_)
      have := upF_len (L := L) (n := 16) (id := x.parent)
      omega
    · exact key 16 id hid (I.ends id)
theorem TreeInv.del {L : List Kls} (I : TreeInv L) {k0 : Int} (h : childC L k0 = []) : TreeInv (delC L k0) := by
  have hno : ∀ c ∈ L, c.parent ≠ k0 := fun c hc e => by
    have : c ∈ L.filter (fun y => y.parent == k0) := List.mem_filter.2 ⟨hc, by simp [e]⟩
    have h2 : (L.filter fun y => y.parent == k0) = [] := by simpa [childC] using h
    rw [h2] at this; simp at this
  refine ⟨delC_rising k0 I.rising, fun c hc => I.ids c (List.mem_filter.1 hc).1, fun c hc => ?_, fun id => ?_⟩
  · have hc2 := (List.mem_filter.1 hc).1
    exact (I.par c hc2).imp id fun hp => by rw [findC_del I.rising, if_neg (hno c hc2)]; exact hp
  · have key : ∀ n id, Ends L n id → Ends (delC L k0) n id := by
      intro n
      induction n with
      | zero => intro id h; rw [Ends] at h ⊢; rw [findC_del I.rising]; split <;> simp [h]
      | succ n ih =>
        intro id h
        rw [Ends] at h ⊢
        rw [findC_del I.rising]
        by_cases hid : id = k0
        · rw [if_pos hid]; trivial
        · rw [if_neg hid]
          cases hf : findC L id with
          | none => trivial
          | some c => rw [hf] at h; exact ih _ h
    exact key 16 id (I.ends id)
theorem TreeInv.set {L : List Kls} (I : TreeInv L) {x y : Kls} (h0 : rightV x = 0) (h1 : findC L x.iD = some y) (h2 : x.parent = y.parent) : TreeInv (putC L x) := by
  obtain ⟨i1, _, i3⟩ := right_id h0
  have key : ∀ n id, Ends L n id → Ends (putC L x) n id := by
    intro n
    induction n with
    | zero =>
      intro id h
      rw [Ends] at h ⊢
      rw [findC_put I.rising]
      by_cases hid : id = x.iD
      · subst hid; rw [h1] at h; cases h
      · rw [if_neg hid]; exact h
    | succ n ih =>
      intro id h
      rw [Ends] at h ⊢
      rw [findC_put I.rising]
      by_cases hid : id = x.iD
      · subst hid; rw [if_pos rfl]; rw [h1] at h; show Ends (putC L x) n x.parent; rw [h2]; exact ih _ h
      · rw [if_neg hid]
        cases hf : findC L id with
        | none => trivial
        | some c => rw [hf] at h; exact ih _ h
  refine ⟨putC_rising x I.rising, fun c hc => ?_, fun c hc => ?_, fun id => key 16 id (I.ends id)⟩
  · rcases mem_put I.rising x hc with rfl | hc
    · exact i1
    · exact I.ids c hc
  · rcases mem_put I.rising x hc with rfl | hc
    · rw [h2]
      exact (I.par y ((findC_iff I.rising).1 h1).1).imp id fun h => some_put I.rising c h
    · exact (I.par c hc).imp id fun h => some_put I.rising x h
end Go.Fg.X
namespace Go.Fg.X
open Go.Proofs Go.Fg
set_option maxRecDepth 100000
set_option maxHeartbeats 4000000
set_option linter.unusedSimpArgs false
set_option linter.unusedVariables false
@[go_sem] def kls (l : List Kls) : D := .imm 14 l.length (Kls.rows l)
theorem hnew_ok (h : List Ob) : MFn Tryz.prog 11 h [] (fun d h' => d = .ptr (h.length + 1) 0 0 0 ∧ h' = h ++ [mapOb .i64 0 [], ⟨.one, 0, 1, 1, fun _ => [.mref h.length 0]⟩]) := by
  refine MFn_hx cx_ok 200 Tryz.func11 rfl Tryz.ntmps11 Tryz.results11 rfl fun base w pl hb => ?_
  simp only [go_sem, Nat.reduceAdd, Nat.reduceSub, Nat.reduceMul, Nat.reduceBEq, Nat.reduceLT, Nat.reduceLeDiff, Nat.reduceEqDiff, Int.reduceToNat, Int.reduceLE, Int.reduceLT, Int.reduceAdd, Int.reduceSub, Int.reduceNeg, Int.reduceBEq, Int.reduceBNe, Nat.reduceBNe, Nat.reduceDiv, Nat.reduceMod, hgetA, hgetL, hgetLk, hsetA, hsetL, hsetLk, List.length_append, List.length_set, List.append_assoc, List.set_set]
def findI (L : List Kls) (k : Int) : Int := match L.findIdx? (fun c => c.iD == k) with
  | some i => i
  | none => -1
theorem findI_at {L : List Kls} {k : Int} {i : Nat} (hi : i < L.length) (h : ∀ j, j < i → (L.getD j default).iD ≠ k) (hg : (L.getD i default).iD = k) : findI L k = i := by
  have e : L.findIdx? (fun c => c.iD == k) = some i := by
    rw [List.findIdx?_eq_some_iff_getElem]
    refine ⟨hi, by simpa [List.getD_eq_getElem?_getD, hi] using hg, fun j hj => ?_⟩
    have := h j hj
    simpa [List.getD_eq_getElem?_getD, show j < L.length by omega] using this
  rw [findI, e]
theorem findI_none {L : List Kls} {k : Int} (h : ∀ j, j < L.length → (L.getD j default).iD ≠ k) : findI L k = -1 := by
  have e : L.findIdx? (fun c => c.iD == k) = none := by
    rw [List.findIdx?_eq_none_iff]
    intro x hx
    obtain ⟨i, hi, rfl⟩ := List.getElem_of_mem hx
    have := h i hi
    simpa [List.getD_eq_getElem?_getD, hi] using this
  rw [findI, e]
theorem rfind_ok (L : List Kls) (k : Int) (hl : L.length < 1000000) : AFn Tryz.prog 72 [kls L, dint k] (Ret (dint (findI L k))) := by
  refine AFn_hxk 0 cx_ok 200 Tryz.func72 rfl Tryz.ntmps72 Tryz.results72 rfl fun base w hb => ?_
  simp only [go_sem, Nat.reduceAdd, Nat.reduceSub, Nat.reduceMul, Nat.reduceBEq, Nat.reduceLT, Nat.reduceLeDiff, Nat.reduceEqDiff, Int.reduceToNat, Int.reduceLE, Int.reduceLT, Int.reduceAdd, Int.reduceSub, Int.reduceNeg, Int.reduceBEq, Int.reduceBNe, Nat.reduceBNe, Nat.reduceDiv, Nat.reduceMod]
  refine kont_for (fun i s => (∀ j, j < i → (L.getD j default).iD ≠ k) ∧ s = ⟨[(1, dint k), (7, kls L), (8, dint L.length), (9, dint i)], []⟩) L.length (Weak.frame (by simp only [go_sem, Nat.reduceAdd, Nat.reduceSub, Nat.reduceMul, Nat.reduceBEq, Nat.reduceLT, Nat.reduceLeDiff, Nat.reduceEqDiff, Int.reduceToNat, Int.reduceLE, Int.reduceLT, Int.reduceAdd, Int.reduceSub, Int.reduceNeg, Int.reduceBEq, Int.reduceBNe, Nat.reduceBNe, Nat.reduceDiv, Nat.reduceMod])) ⟨fun j hj => absurd hj (by omega), rfl⟩ ?_
  rintro i s hi ⟨hn, rfl⟩
  have hwr := wrap_succ (show i < 4611686018427387904 by omega)
  refine kont_of_hx cx_ok hb 200 ?_
  simp only [go_sem, Nat.reduceAdd, Nat.reduceSub, Nat.reduceMul, Nat.reduceBEq, Nat.reduceLT, Nat.reduceLeDiff, Nat.reduceEqDiff, Int.reduceToNat, Int.reduceLE, Int.reduceLT, Int.reduceAdd, Int.reduceSub, Int.reduceNeg, Int.reduceBEq, Int.reduceBNe, Nat.reduceBNe, Nat.reduceDiv, Nat.reduceMod]
  first | refine hite_lt hi (fun hk1 => ?_) (fun hk1 => ?_) | refine hite_ltI hi (fun hk1 => ?_) (fun hk1 => ?_)
  · simp only [go_sem, Nat.reduceAdd, Nat.reduceSub, Nat.reduceMul, Nat.reduceBEq, Nat.reduceLT, Nat.reduceLeDiff, Nat.reduceEqDiff, Int.reduceToNat, Int.reduceLE, Int.reduceLT, Int.reduceAdd, Int.reduceSub, Int.reduceNeg, Int.reduceBEq, Int.reduceBNe, Nat.reduceBNe, Nat.reduceDiv, Nat.reduceMod, hk1]
    by_cases hc : (L.getD i default).iD = k
    · rw [findI_at hk1 hn hc]
      simp only [go_sem, Nat.reduceAdd, Nat.reduceSub, Nat.reduceMul, Nat.reduceBEq, Nat.reduceLT, Nat.reduceLeDiff, Nat.reduceEqDiff, Int.reduceToNat, Int.reduceLE, Int.reduceLT, Int.reduceAdd, Int.reduceSub, Int.reduceNeg, Int.reduceBEq, Int.reduceBNe, Nat.reduceBNe, Nat.reduceDiv, Nat.reduceMod, beqT hc]
    · simp only [go_sem, Nat.reduceAdd, Nat.reduceSub, Nat.reduceMul, Nat.reduceBEq, Nat.reduceLT, Nat.reduceLeDiff, Nat.reduceEqDiff, Int.reduceToNat, Int.reduceLE, Int.reduceLT, Int.reduceAdd, Int.reduceSub, Int.reduceNeg, Int.reduceBEq, Int.reduceBNe, Nat.reduceBNe, Nat.reduceDiv, Nat.reduceMod, beqF hc]
      refine ⟨hk1, _, Weak.to 0 ⟨?_, by simp only [go_sem, Nat.reduceAdd, Nat.reduceSub, Nat.reduceMul, Nat.reduceBEq, Nat.reduceLT, Nat.reduceLeDiff, Nat.reduceEqDiff, Int.reduceToNat, Int.reduceLE, Int.reduceLT, Int.reduceAdd, Int.reduceSub, Int.reduceNeg, Int.reduceBEq, Int.reduceBNe, Nat.reduceBNe, Nat.reduceDiv, Nat.reduceMod], ?_, ?_⟩, fun j hj => ?_, rfl⟩
      · simp only [go_sem, Nat.reduceAdd, Nat.reduceSub, Nat.reduceMul, Nat.reduceBEq, Nat.reduceLT, Nat.reduceLeDiff, Nat.reduceEqDiff, Int.reduceToNat, Int.reduceLE, Int.reduceLT, Int.reduceAdd, Int.reduceSub, Int.reduceNeg, Int.reduceBEq, Int.reduceBNe, Nat.reduceBNe, Nat.reduceDiv, Nat.reduceMod, hwr]
      · simp only [go_sem, Nat.reduceAdd, Nat.reduceSub, Nat.reduceMul, Nat.reduceBEq, Nat.reduceLT, Nat.reduceLeDiff, Nat.reduceEqDiff, Int.reduceToNat, Int.reduceLE, Int.reduceLT, Int.reduceAdd, Int.reduceSub, Int.reduceNeg, Int.reduceBEq, Int.reduceBNe, Nat.reduceBNe, Nat.reduceDiv, Nat.reduceMod]
      · simp only [go_sem, Nat.reduceAdd, Nat.reduceSub, Nat.reduceMul, Nat.reduceBEq, Nat.reduceLT, Nat.reduceLeDiff, Nat.reduceEqDiff, Int.reduceToNat, Int.reduceLE, Int.reduceLT, Int.reduceAdd, Int.reduceSub, Int.reduceNeg, Int.reduceBEq, Int.reduceBNe, Nat.reduceBNe, Nat.reduceDiv, Nat.reduceMod]
      · rcases Nat.lt_succ_iff_lt_or_eq.1 hj with h1 | rfl
        · exact hn j h1
        · exact hc
  · have h1 : i = L.length := by omega
    subst h1
    rw [findI_none hn]
    refine kont_of_hx cx_ok hb 200 ?_
    simp only [go_sem, Nat.reduceAdd, Nat.reduceSub, Nat.reduceMul, Nat.reduceBEq, Nat.reduceLT, Nat.reduceLeDiff, Nat.reduceEqDiff, Int.reduceToNat, Int.reduceLE, Int.reduceLT, Int.reduceAdd, Int.reduceSub, Int.reduceNeg, Int.reduceBEq, Int.reduceBNe, Nat.reduceBNe, Nat.reduceDiv, Nat.reduceMod]
end Go.Fg.X
namespace Go.Fg.X
open Go.Proofs Go.Fg
set_option maxRecDepth 100000
set_option maxHeartbeats 4000000
set_option linter.unusedSimpArgs false
set_option linter.unusedVariables false
/-- Rows of a list, from 'off' on. -/
structure RowsAt {α : Type} [Inhabited α] (enc : α → List D) (L : List α) (off : Nat) (row : Nat → List D) : Prop where
  at_ : ∀ i, i < L.length → row (off + i) = enc (L.getD i default)
  all : ∀ i, i < off + L.length → ∃ a, row i = enc a
/-- A slice of an array that the call made, as a list. -/
def RetS {α : Type} [Inhabited α] (sz : Nat) (enc : α → List D) (L : List α) (d : D) (h : List Ob) : Prop := ∃ g off row, d = .ref 0 g off L.length ∧ h = [⟨.arr, g, sz, off + L.length, row⟩] ∧ RowsAt enc L off row
theorem RetS.flat {α : Type} [Inhabited α] {sz : Nat} {enc : α → List D} {L : List α} (hf : ∀ a, flatL (enc a) = true) : ∀ d h, RetS sz enc L d h → d.flat = true ∧ ∀ o ∈ h, o.flat := by
  rintro d h ⟨g, off, row, rfl, rfl, hr⟩
  refine ⟨rfl, fun o ho i hi => ?_⟩
  simp at ho; subst ho
  obtain ⟨a, ha⟩ := hr.all i hi
  show flatL (row i) = true
  rw [ha]; exact hf a
theorem RowsAt.nil {α : Type} [Inhabited α] {enc : α → List D} {row : Nat → List D} : RowsAt enc [] 0 row := ⟨fun i hi => absurd hi (Nat.not_lt_zero i), fun i hi => absurd hi (Nat.not_lt_zero i)⟩
theorem RowsAt.app {α : Type} [Inhabited α] {enc : α → List D} {L : List α} {off : Nat} {row : Nat → List D} (h : RowsAt enc L off row) (x : α) {r2 : Nat → List D} (h2 : r2 0 = enc x) : RowsAt enc (L ++ [x]) 0 (appRow L.length off row r2) := by
  have key : ∀ i, i < L.length + 1 → appRow L.length off row r2 i = enc ((L ++ [x]).getD i default) := fun i hi => by
    by_cases hlt2 : i < L.length
    · rw [appRow_lt hlt2, h.at_ i hlt2]; simp [hlt2, List.getElem?_append_left hlt2]
    · have : i = L.length := by omega
      subst this
      rw [appRow_ge (Nat.le_refl _), Nat.sub_self, h2]; simp
  exact ⟨fun i hi => by simp at hi; rw [Nat.zero_add]; exact key i hi, fun i hi => by simp at hi; exact ⟨_, key i hi⟩⟩
theorem RowsAt.tail {α : Type} [Inhabited α] {enc : α → List D} {L : List α} {off : Nat} {row : Nat → List D} (h : RowsAt enc L off row) (hne : 0 < L.length) : RowsAt enc L.tail (off + 1) row := by
  refine ⟨fun i hi => ?_, fun i hi => h.all i (by simp at hi; omega)⟩
  simp at hi
  rw [show off + 1 + i = off + (i + 1) by omega, h.at_ (i + 1) (by omega)]
  cases L with
  | nil => simp at hi
  | cons a r => simp
theorem RowsAt.upto {α : Type} [Inhabited α] {enc : α → List D} {L : List α} {off : Nat} {row : Nat → List D} (h : RowsAt enc L off row) {k : Nat} (hu : ∀ a, uptoL k (enc a) = true) : ∀ i, i < off + L.length → uptoL k (row i) = true := fun i hi => by
  obtain ⟨a, ha⟩ := h.all i hi
  rw [ha]; exact hu a
theorem intUp (a : Int) : uptoL 1 [dint a] = true := rfl
/-- What was picked of the first ones of a list. -/
def chAt (L : List Kls) (g : Kls → Bool) : Nat → List Int
  | 0 => []
  | i + 1 => if g (L.getD i default) = true then chAt L g i ++ [(L.getD i default).iD] else chAt L g i
theorem chAt_len (L : List Kls) (g : Kls → Bool) : ∀ i, (chAt L g i).length ≤ i
  | 0 => Nat.le_refl _
  | i + 1 => by
    have := chAt_len L g i
    rw [chAt]; split
    · simp; omega
    · omega
theorem chAt_eq (L : List Kls) (g : Kls → Bool) : ∀ i, i ≤ L.length → chAt L g i = ((L.take i).filter g).map (·.iD)
  | 0, _ => by simp [chAt]
  | i + 1, h => by
    have hi : i < L.length := by omega
    rw [chAt, chAt_eq L g i (by omega), List.take_add_one, List.getElem?_eq_getElem hi]
    simp only [Option.toList_some, List.filter_append, List.map_append, List.getD_eq_getElem?_getD, List.getElem?_eq_getElem hi, Option.getD_some]
    by_cases hg : g L[i] = true
    · rw [if_pos hg, List.filter_cons_of_pos hg]; rfl
    · rw [if_neg hg, List.filter_cons_of_neg hg]; simp
theorem chAt_all (L : List Kls) (g : Kls → Bool) : chAt L g L.length = (L.filter g).map (·.iD) := by rw [chAt_eq L g _ (Nat.le_refl _), List.take_length]
theorem rchildren_ok (L : List Kls) (k : Int) (hl : L.length < 1000000) : AFn Tryz.prog 76 [kls L, dint k] (RetS 1 (fun n : Int => [dint n]) (childC L k)) := by
  have hall : childC L k = chAt L (fun y => y.parent == k) L.length := (chAt_all L _).symm
  refine AFn_hxk 1 cx_ok 200 Tryz.func76 rfl Tryz.ntmps76 Tryz.results76 rfl fun base w hb => ?_
  simp only [go_sem, Nat.reduceAdd, Nat.reduceSub, Nat.reduceMul, Nat.reduceBEq, Nat.reduceLT, Nat.reduceLeDiff, Nat.reduceEqDiff, Int.reduceToNat, Int.reduceLE, Int.reduceLT, Int.reduceAdd, Int.reduceSub, Int.reduceNeg, Int.reduceBEq, Int.reduceBNe, Nat.reduceBNe, Nat.reduceDiv, Nat.reduceMod]
  refine kont_for (fun i s => ∃ g off row, RowsAt (fun n : Int => [dint n]) (chAt L (fun y => y.parent == k) i) off row ∧ s = ⟨[(1, dint k), (5, .ref 0 g off (chAt L (fun y => y.parent == k) i).length), (8, kls L), (9, dint L.length), (10, dint i)], [⟨.arr, g, 1, off + (chAt L (fun y => y.parent == k) i).length, row⟩]⟩) L.length
    (s0 := ⟨[(1, dint k), (5, .ref 0 0 0 0), (8, kls L), (9, dint L.length), (10, dint 0)], [⟨.arr, 0, 1, 0, fun _ => []⟩]⟩)
    (Weak.trans (Weak.phantom 5 1 (fun i => []) rfl) (Weak.frame (by simp only [go_sem, Nat.reduceAdd, Nat.reduceSub, Nat.reduceMul, Nat.reduceBEq, Nat.reduceLT, Nat.reduceLeDiff, Nat.reduceEqDiff, Int.reduceToNat, Int.reduceLE, Int.reduceLT, Int.reduceAdd, Int.reduceSub, Int.reduceNeg, Int.reduceBEq, Int.reduceBNe, Nat.reduceBNe, Nat.reduceDiv, Nat.reduceMod]))) ⟨0, 0, fun _ => [], .nil, rfl⟩ ?_
  rintro i s hi ⟨g, off, row, hr, rfl⟩
  have hcl := chAt_len L (fun y => y.parent == k) i
  have hwr := wrap_succ (show i < 4611686018427387904 by omega)
  refine kont_of_hx cx_ok hb 200 ?_
  simp only [go_sem, Nat.reduceAdd, Nat.reduceSub, Nat.reduceMul, Nat.reduceBEq, Nat.reduceLT, Nat.reduceLeDiff, Nat.reduceEqDiff, Int.reduceToNat, Int.reduceLE, Int.reduceLT, Int.reduceAdd, Int.reduceSub, Int.reduceNeg, Int.reduceBEq, Int.reduceBNe, Nat.reduceBNe, Nat.reduceDiv, Nat.reduceMod]
  first | refine hite_lt hi (fun hk1 => ?_) (fun hk1 => ?_) | refine hite_ltI hi (fun hk1 => ?_) (fun hk1 => ?_)
  · obtain ⟨M, hM⟩ : ∃ M, M = chAt L (fun y => y.parent == k) i := ⟨_, rfl⟩
    obtain ⟨e, he⟩ : ∃ e, e = L.getD i default := ⟨_, rfl⟩
    have hst : chAt L (fun y => y.parent == k) (i + 1) = if (e.parent == k) = true then M ++ [e.iD] else M := by rw [hM, he]; rfl
    rw [← hM] at hr hcl ⊢
    simp only [go_sem, Nat.reduceAdd, Nat.reduceSub, Nat.reduceMul, Nat.reduceBEq, Nat.reduceLT, Nat.reduceLeDiff, Nat.reduceEqDiff, Int.reduceToNat, Int.reduceLE, Int.reduceLT, Int.reduceAdd, Int.reduceSub, Int.reduceNeg, Int.reduceBEq, Int.reduceBNe, Nat.reduceBNe, Nat.reduceDiv, Nat.reduceMod, hk1, ← he]
    by_cases hc : e.parent = k
    · rw [if_pos (beqT hc)] at hst
      have hb4 : M.length ≤ 4294967295 := by omega
      have hr2 : RowsAt (fun n : Int => [dint n]) (chAt L (fun y => y.parent == k) (i + 1)) 0 (appRow M.length off row fun _ => [dint e.iD]) := by rw [hst]; exact hr.app e.iD rfl
      have hl2 : (chAt L (fun y => y.parent == k) (i + 1)).length = M.length + 1 := by rw [hst]; simp
      simp only [go_sem, Nat.reduceAdd, Nat.reduceSub, Nat.reduceMul, Nat.reduceBEq, Nat.reduceLT, Nat.reduceLeDiff, Nat.reduceEqDiff, Int.reduceToNat, Int.reduceLE, Int.reduceLT, Int.reduceAdd, Int.reduceSub, Int.reduceNeg, Int.reduceBEq, Int.reduceBNe, Nat.reduceBNe, Nat.reduceDiv, Nat.reduceMod, beqT hc, hb4]
      refine ⟨hk1, _, Weak.to 1 ⟨?_, by simp only [go_sem, Nat.reduceAdd, Nat.reduceSub, Nat.reduceMul, Nat.reduceBEq, Nat.reduceLT, Nat.reduceLeDiff, Nat.reduceEqDiff, Int.reduceToNat, Int.reduceLE, Int.reduceLT, Int.reduceAdd, Int.reduceSub, Int.reduceNeg, Int.reduceBEq, Int.reduceBNe, Nat.reduceBNe, Nat.reduceDiv, Nat.reduceMod], ?_, ?_⟩, g + 1, 0, _, hr2, rfl⟩
      · simp only [go_sem, Nat.reduceAdd, Nat.reduceSub, Nat.reduceMul, Nat.reduceBEq, Nat.reduceLT, Nat.reduceLeDiff, Nat.reduceEqDiff, Int.reduceToNat, Int.reduceLE, Int.reduceLT, Int.reduceAdd, Int.reduceSub, Int.reduceNeg, Int.reduceBEq, Int.reduceBNe, Nat.reduceBNe, Nat.reduceDiv, Nat.reduceMod, hwr, hl2]
      · exact ⟨hr2.upto intUp, trivial⟩
      · simp only [go_sem, Nat.reduceAdd, Nat.reduceSub, Nat.reduceMul, Nat.reduceBEq, Nat.reduceLT, Nat.reduceLeDiff, Nat.reduceEqDiff, Int.reduceToNat, Int.reduceLE, Int.reduceLT, Int.reduceAdd, Int.reduceSub, Int.reduceNeg, Int.reduceBEq, Int.reduceBNe, Nat.reduceBNe, Nat.reduceDiv, Nat.reduceMod, hl2]
    · rw [if_neg (by simpa using hc)] at hst
      have hr2 : RowsAt (fun n : Int => [dint n]) (chAt L (fun y => y.parent == k) (i + 1)) off row := by rw [hst]; exact hr
      simp only [go_sem, Nat.reduceAdd, Nat.reduceSub, Nat.reduceMul, Nat.reduceBEq, Nat.reduceLT, Nat.reduceLeDiff, Nat.reduceEqDiff, Int.reduceToNat, Int.reduceLE, Int.reduceLT, Int.reduceAdd, Int.reduceSub, Int.reduceNeg, Int.reduceBEq, Int.reduceBNe, Nat.reduceBNe, Nat.reduceDiv, Nat.reduceMod, beqF hc]
      refine ⟨hk1, _, Weak.to 1 ⟨?_, by simp only [go_sem, Nat.reduceAdd, Nat.reduceSub, Nat.reduceMul, Nat.reduceBEq, Nat.reduceLT, Nat.reduceLeDiff, Nat.reduceEqDiff, Int.reduceToNat, Int.reduceLE, Int.reduceLT, Int.reduceAdd, Int.reduceSub, Int.reduceNeg, Int.reduceBEq, Int.reduceBNe, Nat.reduceBNe, Nat.reduceDiv, Nat.reduceMod], ?_, ?_⟩, g, off, row, hr2, rfl⟩
      · simp only [go_sem, Nat.reduceAdd, Nat.reduceSub, Nat.reduceMul, Nat.reduceBEq, Nat.reduceLT, Nat.reduceLeDiff, Nat.reduceEqDiff, Int.reduceToNat, Int.reduceLE, Int.reduceLT, Int.reduceAdd, Int.reduceSub, Int.reduceNeg, Int.reduceBEq, Int.reduceBNe, Nat.reduceBNe, Nat.reduceDiv, Nat.reduceMod, hwr, hst]
      · exact ⟨hr2.upto intUp, trivial⟩
      · simp only [go_sem, Nat.reduceAdd, Nat.reduceSub, Nat.reduceMul, Nat.reduceBEq, Nat.reduceLT, Nat.reduceLeDiff, Nat.reduceEqDiff, Int.reduceToNat, Int.reduceLE, Int.reduceLT, Int.reduceAdd, Int.reduceSub, Int.reduceNeg, Int.reduceBEq, Int.reduceBNe, Nat.reduceBNe, Nat.reduceDiv, Nat.reduceMod, hst]
  · have h1 : i = L.length := by omega
    subst h1
    rw [hall]
    refine kont_of_hx cx_ok hb 200 ?_
    simp only [go_sem, Nat.reduceAdd, Nat.reduceSub, Nat.reduceMul, Nat.reduceBEq, Nat.reduceLT, Nat.reduceLeDiff, Nat.reduceEqDiff, Int.reduceToNat, Int.reduceLE, Int.reduceLT, Int.reduceAdd, Int.reduceSub, Int.reduceNeg, Int.reduceBEq, Int.reduceBNe, Nat.reduceBNe, Nat.reduceDiv, Nat.reduceMod]
    exact ⟨hr.upto intUp, g, off, row, rfl, rfl, hr⟩
end Go.Fg.X
namespace Go.Fg.X
open Go.Proofs Go.Fg
set_option maxRecDepth 100000
set_option maxHeartbeats 4000000
set_option linter.unusedSimpArgs false
set_option linter.unusedVariables false
theorem findI_cases (L : List Kls) (k : Int) : (findC L k = none ∧ findI L k = -1) ∨ ∃ i, i < L.length ∧ findI L k = (i : Int) ∧ findC L k = some (L.getD i default) := by
  cases h : L.findIdx? (fun c => c.iD == k) with
  | none =>
    refine .inl ⟨?_, by rw [findI, h]⟩
    rw [findC, List.find?_eq_none]
    intro x hx
    have := List.findIdx?_eq_none_iff.1 h x hx
    simp [this]
  | some i =>
    obtain ⟨h1, h2, h3⟩ := List.findIdx?_eq_some_iff_getElem.1 h
    refine .inr ⟨i, h1, by rw [findI, h], ?_⟩
    rw [findC, List.find?_eq_some_iff_getElem]
    refine ⟨by simpa [List.getD_eq_getElem?_getD, h1] using h2, i, h1, by simp [List.getD_eq_getElem?_getD, h1], fun j hj => ?_⟩
    have := h3 j hj
    simpa using this
theorem rshares_ok (L : List Kls) (id : Int) (hl : L.length < 1000000) (hn : ∀ c ∈ L, c.Nn) : AFn Tryz.prog 73 [kls L, dint id] (Ret (dbool (sharesC L id))) := by
  refine AFn_hxk 0 cx_ok 200 Tryz.func73 rfl Tryz.ntmps73 Tryz.results73 rfl fun base w hb => ?_
  simp only [go_sem, Nat.reduceAdd, Nat.reduceSub, Nat.reduceMul, Nat.reduceBEq, Nat.reduceLT, Nat.reduceLeDiff, Nat.reduceEqDiff, Int.reduceToNat, Int.reduceLE, Int.reduceLT, Int.reduceAdd, Int.reduceSub, Int.reduceNeg, Int.reduceBEq, Int.reduceBNe, Nat.reduceBNe, Nat.reduceDiv, Nat.reduceMod]
  refine kont_call hb fn72 rfl ?_ (rfind_ok L id hl) (Ret.flat rfl) rfl fun d h hR => ?_
  · simp only [go_sem, Nat.reduceAdd, Nat.reduceSub, Nat.reduceMul, Nat.reduceBEq, Nat.reduceLT, Nat.reduceLeDiff, Nat.reduceEqDiff, Int.reduceToNat, Int.reduceLE, Int.reduceLT, Int.reduceAdd, Int.reduceSub, Int.reduceNeg, Int.reduceBEq, Int.reduceBNe, Nat.reduceBNe, Nat.reduceDiv, Nat.reduceMod]
  obtain ⟨rfl, rfl⟩ := hR
  refine kont_of_hx cx_ok hb 200 ?_
  simp only [go_sem, Nat.reduceAdd, Nat.reduceSub, Nat.reduceMul, Nat.reduceBEq, Nat.reduceLT, Nat.reduceLeDiff, Nat.reduceEqDiff, Int.reduceToNat, Int.reduceLE, Int.reduceLT, Int.reduceAdd, Int.reduceSub, Int.reduceNeg, Int.reduceBEq, Int.reduceBNe, Nat.reduceBNe, Nat.reduceDiv, Nat.reduceMod]
  by_cases h0 : id = 0
  · have e : sharesC L id = true := by simp [sharesC, h0]
    simp only [go_sem, Nat.reduceAdd, Nat.reduceSub, Nat.reduceMul, Nat.reduceBEq, Nat.reduceLT, Nat.reduceLeDiff, Nat.reduceEqDiff, Int.reduceToNat, Int.reduceLE, Int.reduceLT, Int.reduceAdd, Int.reduceSub, Int.reduceNeg, Int.reduceBEq, Int.reduceBNe, Nat.reduceBNe, Nat.reduceDiv, Nat.reduceMod, beqT h0, Go.undef, e]
  · have e : sharesC L id = decide (1 < ofI ((findC L id).getD default).ls) := by simp [sharesC, h0]
    rw [e]
    simp only [go_sem, Nat.reduceAdd, Nat.reduceSub, Nat.reduceMul, Nat.reduceBEq, Nat.reduceLT, Nat.reduceLeDiff, Nat.reduceEqDiff, Int.reduceToNat, Int.reduceLE, Int.reduceLT, Int.reduceAdd, Int.reduceSub, Int.reduceNeg, Int.reduceBEq, Int.reduceBNe, Nat.reduceBNe, Nat.reduceDiv, Nat.reduceMod, beqF h0, Go.undef]
    rcases findI_cases L id with ⟨h1, h2⟩ | ⟨i, hi, h2, h1⟩
    · rw [h1, h2]
      simp only [go_sem, Nat.reduceAdd, Nat.reduceSub, Nat.reduceMul, Nat.reduceBEq, Nat.reduceLT, Nat.reduceLeDiff, Nat.reduceEqDiff, Int.reduceToNat, Int.reduceLE, Int.reduceLT, Int.reduceAdd, Int.reduceSub, Int.reduceNeg, Int.reduceBEq, Int.reduceBNe, Nat.reduceBNe, Nat.reduceDiv, Nat.reduceMod, Go.undef]
      rfl
    · rw [h1, h2]
      have hmem : L.getD i default ∈ L := by rw [List.getD_eq_getElem?_getD, List.getElem?_eq_getElem hi]; exact List.getElem_mem hi
      have hN := hn _ hmem
      have hge : (0 : Int) ≤ (i : Int) := by omega
      simp only [go_sem, Nat.reduceAdd, Nat.reduceSub, Nat.reduceMul, Nat.reduceBEq, Nat.reduceLT, Nat.reduceLeDiff, Nat.reduceEqDiff, Int.reduceToNat, Int.reduceLE, Int.reduceLT, Int.reduceAdd, Int.reduceSub, Int.reduceNeg, Int.reduceBEq, Int.reduceBNe, Nat.reduceBNe, Nat.reduceDiv, Nat.reduceMod, Go.undef, decide_eq_true hge, hi]
      refine kont_call hb fn41 rfl ?_ (rofcI_ok (L.getD i default).ls hN.2.1.1 hN.2.1.2.1 hN.2.1.2.2) (Ret.flat rfl) rfl fun d h hR => ?_
      · simp only [go_sem, Nat.reduceAdd, Nat.reduceSub, Nat.reduceMul, Nat.reduceBEq, Nat.reduceLT, Nat.reduceLeDiff, Nat.reduceEqDiff, Int.reduceToNat, Int.reduceLE, Int.reduceLT, Int.reduceAdd, Int.reduceSub, Int.reduceNeg, Int.reduceBEq, Int.reduceBNe, Nat.reduceBNe, Nat.reduceDiv, Nat.reduceMod, Go.undef, Option.getD_some]
      obtain ⟨rfl, rfl⟩ := hR
      refine kont_of_hx cx_ok hb 200 ?_
      simp only [go_sem, Nat.reduceAdd, Nat.reduceSub, Nat.reduceMul, Nat.reduceBEq, Nat.reduceLT, Nat.reduceLeDiff, Nat.reduceEqDiff, Int.reduceToNat, Int.reduceLE, Int.reduceLT, Int.reduceAdd, Int.reduceSub, Int.reduceNeg, Int.reduceBEq, Int.reduceBNe, Nat.reduceBNe, Nat.reduceDiv, Nat.reduceMod, Go.undef, Option.getD_some]
end Go.Fg.X
namespace Go.Fg.X
open Go.Proofs Go.Fg
set_option maxRecDepth 100000
set_option maxHeartbeats 4000000
set_option linter.unusedSimpArgs false
set_option linter.unusedVariables false
theorem rup_ok (L : List Kls) (id : Int) (hl : L.length < 1000000) : AFn Tryz.prog 74 [kls L, dint id] (RetS 1 (fun n : Int => [dint n]) (upF L 70 id)) := by
  refine AFn_hxk 1 cx_ok 200 Tryz.func74 rfl Tryz.ntmps74 Tryz.results74 rfl fun base w hb => ?_
  simp only [go_sem, Nat.reduceAdd, Nat.reduceSub, Nat.reduceMul, Nat.reduceBEq, Nat.reduceLT, Nat.reduceLeDiff, Nat.reduceEqDiff, Int.reduceToNat, Int.reduceLE, Int.reduceLT, Int.reduceAdd, Int.reduceSub, Int.reduceNeg, Int.reduceBEq, Int.reduceBNe, Nat.reduceBNe, Nat.reduceDiv, Nat.reduceMod]
  refine kont_for (fun i s => ∃ dn cur g off row, dn ++ upF L (70 - i) cur = upF L 70 id ∧ dn.length = i ∧ RowsAt (fun n : Int => [dint n]) dn off row ∧ s = ⟨[(0, kls L), (5, .ref 0 g off dn.length), (6, dint cur), (9, dint i)], [⟨.arr, g, 1, off + dn.length, row⟩]⟩) 70
    (s0 := ⟨[(0, kls L), (5, .ref 0 0 0 0), (6, dint id), (9, dint 0)], [⟨.arr, 0, 1, 0, fun _ => []⟩]⟩)
    (Weak.trans (Weak.phantom 5 1 (fun i => []) rfl) (Weak.frame (by simp only [go_sem, Nat.reduceAdd, Nat.reduceSub, Nat.reduceMul, Nat.reduceBEq, Nat.reduceLT, Nat.reduceLeDiff, Nat.reduceEqDiff, Int.reduceToNat, Int.reduceLE, Int.reduceLT, Int.reduceAdd, Int.reduceSub, Int.reduceNeg, Int.reduceBEq, Int.reduceBNe, Nat.reduceBNe, Nat.reduceDiv, Nat.reduceMod]))) ⟨[], id, 0, 0, fun _ => [], rfl, rfl, .nil, rfl⟩ ?_
  rintro i s hi ⟨dn, cur, g, off, row, hd, hdl, hr, rfl⟩
  have hwr := wrap_succ (show i < 4611686018427387904 by omega)
  by_cases hk1 : i < 70
  · have hki : ((i : Int) < 70) := by omega
    obtain ⟨n, hn⟩ : ∃ n, 70 - i = n + 1 := ⟨69 - i, by omega⟩
    have hn2 : 70 - (i + 1) = n := by omega
    rw [hn, upF] at hd
    rcases findI_cases L cur with ⟨h1, h2⟩ | ⟨j, hj, h2, h1⟩
    · rw [h1, List.append_nil] at hd
      rw [← hd]
      refine kont_of_hx cx_ok hb 200 ?_
      simp only [go_sem, Nat.reduceAdd, Nat.reduceSub, Nat.reduceMul, Nat.reduceBEq, Nat.reduceLT, Nat.reduceLeDiff, Nat.reduceEqDiff, Int.reduceToNat, Int.reduceLE, Int.reduceLT, Int.reduceAdd, Int.reduceSub, Int.reduceNeg, Int.reduceBEq, Int.reduceBNe, Nat.reduceBNe, Nat.reduceDiv, Nat.reduceMod, hki, decide_eq_true hki]
      refine kont_call hb fn72 rfl ?_ (rfind_ok L cur hl) (Ret.flat rfl) rfl fun d h hR => ?_
      · simp only [go_sem, Nat.reduceAdd, Nat.reduceSub, Nat.reduceMul, Nat.reduceBEq, Nat.reduceLT, Nat.reduceLeDiff, Nat.reduceEqDiff, Int.reduceToNat, Int.reduceLE, Int.reduceLT, Int.reduceAdd, Int.reduceSub, Int.reduceNeg, Int.reduceBEq, Int.reduceBNe, Nat.reduceBNe, Nat.reduceDiv, Nat.reduceMod, h2]
      obtain ⟨rfl, rfl⟩ := hR
      refine kont_of_hx cx_ok hb 200 ?_
      simp only [go_sem, Nat.reduceAdd, Nat.reduceSub, Nat.reduceMul, Nat.reduceBEq, Nat.reduceLT, Nat.reduceLeDiff, Nat.reduceEqDiff, Int.reduceToNat, Int.reduceLE, Int.reduceLT, Int.reduceAdd, Int.reduceSub, Int.reduceNeg, Int.reduceBEq, Int.reduceBNe, Nat.reduceBNe, Nat.reduceDiv, Nat.reduceMod, h2]
      refine kont_of_hx cx_ok hb 200 ?_
      simp only [go_sem, Nat.reduceAdd, Nat.reduceSub, Nat.reduceMul, Nat.reduceBEq, Nat.reduceLT, Nat.reduceLeDiff, Nat.reduceEqDiff, Int.reduceToNat, Int.reduceLE, Int.reduceLT, Int.reduceAdd, Int.reduceSub, Int.reduceNeg, Int.reduceBEq, Int.reduceBNe, Nat.reduceBNe, Nat.reduceDiv, Nat.reduceMod]
      exact ⟨hr.upto intUp, g, off, row, rfl, rfl, hr⟩
    · rw [h1] at hd
      have hb4 : dn.length ≤ 4294967295 := by omega
      have hr2 : RowsAt (fun n : Int => [dint n]) (dn ++ [cur]) 0 (appRow dn.length off row fun _ => [dint cur]) := hr.app cur rfl
      have hge : ¬ ((j : Int) < 0) := by omega
      refine kont_of_hx cx_ok hb 200 ?_
      simp only [go_sem, Nat.reduceAdd, Nat.reduceSub, Nat.reduceMul, Nat.reduceBEq, Nat.reduceLT, Nat.reduceLeDiff, Nat.reduceEqDiff, Int.reduceToNat, Int.reduceLE, Int.reduceLT, Int.reduceAdd, Int.reduceSub, Int.reduceNeg, Int.reduceBEq, Int.reduceBNe, Nat.reduceBNe, Nat.reduceDiv, Nat.reduceMod, hki, decide_eq_true hki]
      refine kont_call hb fn72 rfl ?_ (rfind_ok L cur hl) (Ret.flat rfl) rfl fun d h hR => ?_
      · simp only [go_sem, Nat.reduceAdd, Nat.reduceSub, Nat.reduceMul, Nat.reduceBEq, Nat.reduceLT, Nat.reduceLeDiff, Nat.reduceEqDiff, Int.reduceToNat, Int.reduceLE, Int.reduceLT, Int.reduceAdd, Int.reduceSub, Int.reduceNeg, Int.reduceBEq, Int.reduceBNe, Nat.reduceBNe, Nat.reduceDiv, Nat.reduceMod, h2, hb4, decide_eq_false hge, hj]
      obtain ⟨rfl, rfl⟩ := hR
      refine kont_of_hx cx_ok hb 200 ?_
      simp only [go_sem, Nat.reduceAdd, Nat.reduceSub, Nat.reduceMul, Nat.reduceBEq, Nat.reduceLT, Nat.reduceLeDiff, Nat.reduceEqDiff, Int.reduceToNat, Int.reduceLE, Int.reduceLT, Int.reduceAdd, Int.reduceSub, Int.reduceNeg, Int.reduceBEq, Int.reduceBNe, Nat.reduceBNe, Nat.reduceDiv, Nat.reduceMod, h2, hb4, decide_eq_false hge, hj]
      refine ⟨hk1, _, Weak.to 1 ⟨?_, by simp only [go_sem, Nat.reduceAdd, Nat.reduceSub, Nat.reduceMul, Nat.reduceBEq, Nat.reduceLT, Nat.reduceLeDiff, Nat.reduceEqDiff, Int.reduceToNat, Int.reduceLE, Int.reduceLT, Int.reduceAdd, Int.reduceSub, Int.reduceNeg, Int.reduceBEq, Int.reduceBNe, Nat.reduceBNe, Nat.reduceDiv, Nat.reduceMod], ?_, ?_⟩, dn ++ [cur], (L.getD j default).parent, g + 1, 0, _, ?_, by simp [hdl], hr2, rfl⟩
      · simp only [go_sem, Nat.reduceAdd, Nat.reduceSub, Nat.reduceMul, Nat.reduceBEq, Nat.reduceLT, Nat.reduceLeDiff, Nat.reduceEqDiff, Int.reduceToNat, Int.reduceLE, Int.reduceLT, Int.reduceAdd, Int.reduceSub, Int.reduceNeg, Int.reduceBEq, Int.reduceBNe, Nat.reduceBNe, Nat.reduceDiv, Nat.reduceMod, hwr, List.length_append, List.length_singleton]
      · exact ⟨hr2.upto intUp, trivial⟩
      · simp only [go_sem, Nat.reduceAdd, Nat.reduceSub, Nat.reduceMul, Nat.reduceBEq, Nat.reduceLT, Nat.reduceLeDiff, Nat.reduceEqDiff, Int.reduceToNat, Int.reduceLE, Int.reduceLT, Int.reduceAdd, Int.reduceSub, Int.reduceNeg, Int.reduceBEq, Int.reduceBNe, Nat.reduceBNe, Nat.reduceDiv, Nat.reduceMod, List.length_append, List.length_singleton]
      · rw [hn2, ← hd]; simp
  · have h1 : i = 70 := by omega
    subst h1
    rw [upF, List.append_nil] at hd
    rw [← hd]
    have h70 : decide (((70 : Nat) : Int) < 70) = false := by decide
    refine kont_of_hx cx_ok hb 200 ?_
    simp only [go_sem, Nat.reduceAdd, Nat.reduceSub, Nat.reduceMul, Nat.reduceBEq, Nat.reduceLT, Nat.reduceLeDiff, Nat.reduceEqDiff, Int.reduceToNat, Int.reduceLE, Int.reduceLT, Int.reduceAdd, Int.reduceSub, Int.reduceNeg, Int.reduceBEq, Int.reduceBNe, Nat.reduceBNe, Nat.reduceDiv, Nat.reduceMod, h70]
    refine kont_of_hx cx_ok hb 200 ?_
    simp only [go_sem, Nat.reduceAdd, Nat.reduceSub, Nat.reduceMul, Nat.reduceBEq, Nat.reduceLT, Nat.reduceLeDiff, Nat.reduceEqDiff, Int.reduceToNat, Int.reduceLE, Int.reduceLT, Int.reduceAdd, Int.reduceSub, Int.reduceNeg, Int.reduceBEq, Int.reduceBNe, Nat.reduceBNe, Nat.reduceDiv, Nat.reduceMod]
    exact ⟨hr.upto intUp, g, off, row, rfl, rfl, hr⟩
end Go.Fg.X
namespace Go.Fg.X
open Go.Proofs Go.Fg
set_option maxRecDepth 100000
set_option maxHeartbeats 4000000
set_option linter.unusedSimpArgs false
set_option linter.unusedVariables false
/-- What the reference's put has done behind the first i classes: the list, and whether the class was put. -/
def putAt (L : List Kls) (x : Kls) : Nat → List Kls × Bool
  | 0 => ([], false)
  | i + 1 =>
    let o := if !(putAt L x i).2 && decide (x.iD ≤ (L.getD i default).iD) then (putAt L x i).1 ++ [x] else (putAt L x i).1
    (if (L.getD i default).iD ≠ x.iD then o ++ [L.getD i default] else o, (putAt L x i).2 || decide (x.iD ≤ (L.getD i default).iD))
def putOut (L : List Kls) (x : Kls) : List Kls := if (putAt L x L.length).2 then (putAt L x L.length).1 else (putAt L x L.length).1 ++ [x]
/-- The same by the list's own steps. -/
def putGo (x : Kls) : List Kls → List Kls × Bool → List Kls × Bool
  | [], s => s
  | c :: r, s =>
    let o := if !s.2 && decide (x.iD ≤ c.iD) then s.1 ++ [x] else s.1
    putGo x r (if c.iD ≠ x.iD then o ++ [c] else o, s.2 || decide (x.iD ≤ c.iD))
theorem putGo_snoc (x : Kls) : ∀ (L : List Kls) (c : Kls) (s : List Kls × Bool), putGo x (L ++ [c]) s = putGo x [c] (putGo x L s)
  | [], c, s => rfl
  | d :: L, c, s => by simp only [List.cons_append]; rw [putGo, putGo_snoc x L c]; rfl
theorem putAt_go (L : List Kls) (x : Kls) : ∀ i, i ≤ L.length → putAt L x i = putGo x (L.take i) ([], false)
  | 0, _ => by simp [putAt, putGo]
  | i + 1, h => by
    have hi : i < L.length := by omega
    rw [List.take_add_one, List.getElem?_eq_getElem hi, Option.toList_some, putGo_snoc, ← putAt_go L x i (by omega)]
    simp only [putAt, putGo, List.getD_eq_getElem?_getD, List.getElem?_eq_getElem hi, Option.getD_some]
theorem putGo_true (x : Kls) : ∀ (L o : List Kls), (∀ c ∈ L, c.iD ≠ x.iD) → putGo x L (o, true) = (o ++ L, true)
  | [], o, _ => by simp [putGo]
  | c :: L, o, h => by
    have h1 := h c (by simp)
    simp only [putGo, Bool.not_true, Bool.false_and, Bool.false_eq_true, if_false, Bool.true_or]
    rw [if_pos h1, putGo_true x L _ fun d hd => h d (by simp [hd])]
    simp
theorem putGo_putC (x : Kls) : ∀ (L o : List Kls), Rising L → (let s := putGo x L (o, false); if s.2 then s.1 else s.1 ++ [x]) = o ++ putC L x
  | [], o, _ => by simp [putGo, putC]
  | c :: L, o, h => by
    have hr : Rising L := List.Pairwise.of_cons h
    have hc : ∀ d ∈ L, c.iD < d.iD := fun d hd => (List.pairwise_cons.1 h).1 d hd
    simp only [putGo, putC, Bool.not_false, Bool.true_and, Bool.false_or, decide_eq_true_eq]
    by_cases h1 : x.iD < c.iD
    · have h2 : x.iD ≤ c.iD := by omega
      have h3 : c.iD ≠ x.iD := by omega
      rw [if_pos h1, if_pos h2, if_pos h3, decide_eq_true h2, putGo_true x L _ fun d hd => by have := hc d hd; omega]
      simp
    · by_cases h2 : c.iD = x.iD
      · have h4 : x.iD ≤ c.iD := by omega
        rw [if_neg h1, if_pos h2, if_pos h4, if_neg (show ¬ (c.iD ≠ x.iD) from fun hn => hn h2), decide_eq_true h4, putGo_true x L _ fun d hd => by have := hc d hd; omega]
        simp
      · have h4 : ¬ x.iD ≤ c.iD := by omega
        have ih := putGo_putC x L (o ++ [c]) hr
        simp only at ih
        rw [if_neg h1, if_neg h2, if_neg h4, if_pos h2, decide_eq_false h4, ih]
        simp
theorem putOut_eq {L : List Kls} (h : Rising L) (x : Kls) : putOut L x = putC L x := by
  have := putGo_putC x L [] h
  simp only [List.nil_append] at this
  rw [putOut, putAt_go L x _ (Nat.le_refl _), List.take_length, this]
end Go.Fg.X
namespace Go.Fg.X
open Go.Proofs Go.Fg
set_option maxRecDepth 100000
set_option maxHeartbeats 4000000
set_option linter.unusedSimpArgs false
set_option linter.unusedVariables false
/-- A curve, of numbers that are not below 0. -/
structure Nc where
  a : Nat
  d : Nat
  b : Nat
instance : Inhabited Nc := ⟨⟨0, 0, 0⟩⟩
@[go_sem] def Nc.cells (c : Nc) : List D := [u64 c.a, u64 c.d, u64 c.b]
def Nc.rows (l : List Nc) : Nat → List D := fun i => (l.getD i default).cells
@[go_sem] theorem Nc.rows_at (l : List Nc) (i : Nat) : Nc.rows l i = (l.getD i default).cells := rfl
@[go_sem] def ncs (l : List Nc) : D := .imm 3 l.length (Nc.rows l)
@[go_sem] def dnc (c : Nc) : D := .agg c.cells
def Nc.of (c : Nc) : Int := ofV c.a c.d c.b
def Nc.Lt (c : Nc) : Prop := c.a < 18446744073709551616 ∧ c.d < 18446744073709551616 ∧ c.b < 18446744073709551616
/-- What a function value tells of a curve, as a wide number. -/
def TellsN (F : List Ob) (f nf : Nat) (caps : List D) (g : Nc → Nat) : Prop := ∀ (h : List Ob) (c : Nc), c.Lt → ExtF F h → RFn0 Tryz.prog f h (argsD nf caps [dnc c]) (fun d => d = num (g c))
def sumF (g : Nc → Nat) (s : Nat) (c : Nc) : Nat := if c.of = 0 then s else s + g c
def sumG (g : Nc → Nat) (l : List Nc) : Nat := l.foldl (sumF g) 0
theorem sumF_le {g : Nc → Nat} {M : Nat} (hg : ∀ c : Nc, c.Lt → g c ≤ M) : ∀ {l : List Nc} {s : Nat}, (∀ c ∈ l, c.Lt) → l.foldl (sumF g) s ≤ s + l.length * M
  | [], s, _ => by simp
  | c :: l, s, h => by
    have h1 := hg c (h c (by simp))
    have h2 := sumF_le hg (l := l) (s := sumF g s c) fun x hx => h x (by simp [hx])
    have h3 : sumF g s c ≤ s + M := by unfold sumF; split <;> omega
    simp only [List.foldl_cons, List.length_cons, Nat.add_mul, Nat.one_mul]
    omega
def oNum (n : Nat) : Ob := ⟨.one, 0, 2, 1, fun _ => [u64 (n / 18446744073709551616), u64 (n % 18446744073709551616)]⟩
structure OvI (l : List Nc) (so : D) (g : Nc → Nat) (F : List Ob) (i : Nat) (s : St) : Prop where
  ex : ∃ G : List Ob, s = ⟨[(1, so), (4, .ptr F.length 0 0 0), (5, .ptr (F.length + 1) 0 0 0), (8, ncs l), (9, dint l.length), (10, dint i)], F ++ (oNum 0 :: oNum ((l.take i).foldl (sumF g) 0) :: G)⟩
theorem sover_ok (h : List Ob) (l : List Nc) (hl : l.length < 1048576) (hc : ∀ c ∈ l, c.Lt) (so : D) (f nf : Nat) (caps : List D) (hf : FnOk Tryz.prog f) (hso : calleeD so = some (f, nf, caps)) (g : Nc → Nat) (hgM : ∀ c : Nc, c.Lt → g c ≤ 2 ^ 97)
    (hg : TellsN (h.map Ob.ro) f nf caps g) : RFn0 Tryz.prog 100 h [ncs l, so] (fun d => d = num (sumG g l)) := by
  refine RFn0_hx cx_ok 200 Tryz.func100 rfl Tryz.ntmps100 Tryz.results100 rfl fun base w pl F hF hFl hb => ?_
  simp only [go_sem, Nat.reduceAdd, Nat.reduceSub, Nat.reduceMul, Nat.reduceBEq, Nat.reduceLT, Nat.reduceLeDiff, Nat.reduceEqDiff, Int.reduceToNat, Int.reduceLE, Int.reduceLT, Int.reduceAdd, Int.reduceSub, Int.reduceNeg, Int.reduceBEq, Int.reduceBNe, Nat.reduceBNe, Nat.reduceDiv, Nat.reduceMod, hgetA, hgetL, hgetLk, hsetA, hsetL, hsetLk, List.length_append, List.length_set, List.append_assoc, List.set_set]
  refine kont_for (OvI l so g F) l.length (s0 := ⟨[(1, so), (4, .ptr F.length 0 0 0), (5, .ptr (F.length + 1) 0 0 0), (8, ncs l), (9, dint l.length), (10, dint 0)], F ++ [oNum 0, oNum 0]⟩) (Weak.frame (by simp only [go_sem, Nat.reduceAdd, Nat.reduceSub, Nat.reduceMul, Nat.reduceBEq, Nat.reduceLT, Nat.reduceLeDiff, Nat.reduceEqDiff, Int.reduceToNat, Int.reduceLE, Int.reduceLT, Int.reduceAdd, Int.reduceSub, Int.reduceNeg, Int.reduceBEq, Int.reduceBNe, Nat.reduceBNe, Nat.reduceDiv, Nat.reduceMod])) ⟨[], rfl⟩ ?_
  rintro i s hi ⟨G, rfl⟩
  have hwr := wrap_succ (show i < 4611686018427387904 by omega)
  obtain ⟨S, hS⟩ : ∃ S, S = (l.take i).foldl (sumF g) 0 := ⟨_, rfl⟩
  have hSl : S ≤ 2 ^ 117 := by
    have h1 := sumF_le hgM (l := l.take i) (s := 0) fun x hx => hc x (List.mem_of_mem_take hx)
    have h2 : (l.take i).length ≤ 1048576 := by simp; omega
    have h3 := Nat.mul_le_mul_right (2 ^ 97) h2
    rw [hS]; omega
  rw [← hS]
  refine kont_of_hx cx_ok hb 200 ?_
  simp only [go_sem, Nat.reduceAdd, Nat.reduceSub, Nat.reduceMul, Nat.reduceBEq, Nat.reduceLT, Nat.reduceLeDiff, Nat.reduceEqDiff, Int.reduceToNat, Int.reduceLE, Int.reduceLT, Int.reduceAdd, Int.reduceSub, Int.reduceNeg, Int.reduceBEq, Int.reduceBNe, Nat.reduceBNe, Nat.reduceDiv, Nat.reduceMod, hgetA, hgetL, hgetLk, hsetA, hsetL, hsetLk, List.length_append, List.length_set, List.append_assoc, List.set_set]
  first | refine hite_lt hi (fun hk1 => ?_) (fun hk1 => ?_) | refine hite_ltI hi (fun hk1 => ?_) (fun hk1 => ?_)
  · obtain ⟨c, hcc⟩ : ∃ c, c = l.getD i default := ⟨_, rfl⟩
    have hcl : c.Lt := hc c (by rw [hcc, List.getD_eq_getElem?_getD, List.getElem?_eq_getElem hk1]; exact List.getElem_mem hk1)
    have hst : (l.take (i + 1)).foldl (sumF g) 0 = sumF g S c := by
      rw [List.take_add_one, List.getElem?_eq_getElem hk1, Option.toList_some, List.foldl_append, hS, hcc, List.getD_eq_getElem?_getD, List.getElem?_eq_getElem hk1]; rfl
    simp only [go_sem, Nat.reduceAdd, Nat.reduceSub, Nat.reduceMul, Nat.reduceBEq, Nat.reduceLT, Nat.reduceLeDiff, Nat.reduceEqDiff, Int.reduceToNat, Int.reduceLE, Int.reduceLT, Int.reduceAdd, Int.reduceSub, Int.reduceNeg, Int.reduceBEq, Int.reduceBNe, Nat.reduceBNe, Nat.reduceDiv, Nat.reduceMod, hgetA, hgetL, hgetLk, hsetA, hsetL, hsetLk, List.length_append, List.length_set, List.append_assoc, List.set_set, hk1, ← hcc]
    refine kont_call hb fn49 rfl ?_ (right_ok c.a c.d c.b) (Ret.flat rfl) rfl fun d h hR => ?_
    · simp only [go_sem, Nat.reduceAdd, Nat.reduceSub, Nat.reduceMul, Nat.reduceBEq, Nat.reduceLT, Nat.reduceLeDiff, Nat.reduceEqDiff, Int.reduceToNat, Int.reduceLE, Int.reduceLT, Int.reduceAdd, Int.reduceSub, Int.reduceNeg, Int.reduceBEq, Int.reduceBNe, Nat.reduceBNe, Nat.reduceDiv, Nat.reduceMod, hgetA, hgetL, hgetLk, hsetA, hsetL, hsetLk, List.length_append, List.length_set, List.append_assoc, List.set_set]
    obtain ⟨rfl, rfl⟩ := hR
    refine kont_of_hx cx_ok hb 200 ?_
    simp only [go_sem, Nat.reduceAdd, Nat.reduceSub, Nat.reduceMul, Nat.reduceBEq, Nat.reduceLT, Nat.reduceLeDiff, Nat.reduceEqDiff, Int.reduceToNat, Int.reduceLE, Int.reduceLT, Int.reduceAdd, Int.reduceSub, Int.reduceNeg, Int.reduceBEq, Int.reduceBNe, Nat.reduceBNe, Nat.reduceDiv, Nat.reduceMod, hgetA, hgetL, hgetLk, hsetA, hsetL, hsetLk, List.length_append, List.length_set, List.append_assoc, List.set_set]
    by_cases h0 : c.of = 0
    · have h0' : ofV c.a c.d c.b = 0 := h0
      have hs2 : sumF g S c = S := by rw [sumF, if_pos h0]
      simp only [go_sem, Nat.reduceAdd, Nat.reduceSub, Nat.reduceMul, Nat.reduceBEq, Nat.reduceLT, Nat.reduceLeDiff, Nat.reduceEqDiff, Int.reduceToNat, Int.reduceLE, Int.reduceLT, Int.reduceAdd, Int.reduceSub, Int.reduceNeg, Int.reduceBEq, Int.reduceBNe, Nat.reduceBNe, Nat.reduceDiv, Nat.reduceMod, hgetA, hgetL, hgetLk, hsetA, hsetL, hsetLk, List.length_append, List.length_set, List.append_assoc, List.set_set, beqT h0', bne]
      refine ⟨hk1, _, Weak.frame (fr' := [(1, so), (4, .ptr F.length 0 0 0), (5, .ptr (F.length + 1) 0 0 0), (8, ncs l), (9, dint l.length), (10, dint (i + 1 : Nat))]) (by simp only [go_sem, Nat.reduceAdd, Nat.reduceSub, Nat.reduceMul, Nat.reduceBEq, Nat.reduceLT, Nat.reduceLeDiff, Nat.reduceEqDiff, Int.reduceToNat, Int.reduceLE, Int.reduceLT, Int.reduceAdd, Int.reduceSub, Int.reduceNeg, Int.reduceBEq, Int.reduceBNe, Nat.reduceBNe, Nat.reduceDiv, Nat.reduceMod, hwr]), ⟨_, by rw [hst, hs2]⟩⟩
    · have h0' : ofV c.a c.d c.b ≠ 0 := h0
      have hs2 : sumF g S c = S + g c := by rw [sumF, if_neg h0]
      have hgc := hgM c hcl
      simp only [go_sem, Nat.reduceAdd, Nat.reduceSub, Nat.reduceMul, Nat.reduceBEq, Nat.reduceLT, Nat.reduceLeDiff, Nat.reduceEqDiff, Int.reduceToNat, Int.reduceLE, Int.reduceLT, Int.reduceAdd, Int.reduceSub, Int.reduceNeg, Int.reduceBEq, Int.reduceBNe, Nat.reduceBNe, Nat.reduceDiv, Nat.reduceMod, hgetA, hgetL, hgetLk, hsetA, hsetL, hsetLk, List.length_append, List.length_set, List.append_assoc, List.set_set, beqF h0', bne]
      have hadd := add_ok S (g c) (by omega) (by omega)
      rw [Nat.mod_eq_of_lt (by omega : S + g c < 2 ^ 128)] at hadd
      refine kont_hax cx_ok hb 200 mixed [(0, true), (1, true), (2, true), (3, false), (4, false), (5, true), (6, true), (7, true), (8, false)] (by kernel_rfl) (by kernel_rfl) ?_
      simp only [go_sem, Nat.reduceAdd, Nat.reduceSub, Nat.reduceMul, Nat.reduceBEq, Nat.reduceLT, Nat.reduceLeDiff, Nat.reduceEqDiff, Int.reduceToNat, Int.reduceLE, Int.reduceLT, Int.reduceAdd, Int.reduceSub, Int.reduceNeg, Int.reduceBEq, Int.reduceBNe, Nat.reduceBNe, Nat.reduceDiv, Nat.reduceMod, hgetA, hgetL, hgetLk, hsetA, hsetL, hsetLk, List.length_append, List.length_set, List.append_assoc, List.set_set, oNum]
      refine AX_callR0 hb hf hso ?_ (hg _ c hcl (by rw [← hF]; exact ⟨_, rfl⟩)) rfl fun d2 hR => ?_
      · simp only [go_sem, Nat.reduceAdd, Nat.reduceSub, Nat.reduceMul, Nat.reduceBEq, Nat.reduceLT, Nat.reduceLeDiff, Nat.reduceEqDiff, Int.reduceToNat, Int.reduceLE, Int.reduceLT, Int.reduceAdd, Int.reduceSub, Int.reduceNeg, Int.reduceBEq, Int.reduceBNe, Nat.reduceBNe, Nat.reduceDiv, Nat.reduceMod]
        exact argsEq_refl _
      subst hR
      refine AX_of_hax cx_ok hb ?_
      simp only [go_sem, Nat.reduceAdd, Nat.reduceSub, Nat.reduceMul, Nat.reduceBEq, Nat.reduceLT, Nat.reduceLeDiff, Nat.reduceEqDiff, Int.reduceToNat, Int.reduceLE, Int.reduceLT, Int.reduceAdd, Int.reduceSub, Int.reduceNeg, Int.reduceBEq, Int.reduceBNe, Nat.reduceBNe, Nat.reduceDiv, Nat.reduceMod, hgetA, hgetL, hgetLk, hsetA, hsetL, hsetLk, List.length_append, List.length_set, List.append_assoc, List.set_set]
      refine AX_call hb fn88 rfl ?_ hadd (Ret.flat rfl) rfl fun d h hR => ?_
      · simp only [go_sem, Nat.reduceAdd, Nat.reduceSub, Nat.reduceMul, Nat.reduceBEq, Nat.reduceLT, Nat.reduceLeDiff, Nat.reduceEqDiff, Int.reduceToNat, Int.reduceLE, Int.reduceLT, Int.reduceAdd, Int.reduceSub, Int.reduceNeg, Int.reduceBEq, Int.reduceBNe, Nat.reduceBNe, Nat.reduceDiv, Nat.reduceMod, hgetA, hgetL, hgetLk, hsetA, hsetL, hsetLk, List.length_append, List.length_set, List.append_assoc, List.set_set]
      obtain ⟨rfl, rfl⟩ := hR
      refine AX_of_hax cx_ok hb ?_
      simp only [go_sem, Nat.reduceAdd, Nat.reduceSub, Nat.reduceMul, Nat.reduceBEq, Nat.reduceLT, Nat.reduceLeDiff, Nat.reduceEqDiff, Int.reduceToNat, Int.reduceLE, Int.reduceLT, Int.reduceAdd, Int.reduceSub, Int.reduceNeg, Int.reduceBEq, Int.reduceBNe, Nat.reduceBNe, Nat.reduceDiv, Nat.reduceMod, hgetA, hgetL, hgetLk, hsetA, hsetL, hsetLk, List.length_append, List.length_set, List.append_assoc, List.set_set]
      refine ⟨hk1, _, Weak.frame (fr' := [(1, so), (4, .ptr F.length 0 0 0), (5, .ptr (F.length + 1) 0 0 0), (8, ncs l), (9, dint l.length), (10, dint (i + 1 : Nat))]) (by simp only [go_sem, Nat.reduceAdd, Nat.reduceSub, Nat.reduceMul, Nat.reduceBEq, Nat.reduceLT, Nat.reduceLeDiff, Nat.reduceEqDiff, Int.reduceToNat, Int.reduceLE, Int.reduceLT, Int.reduceAdd, Int.reduceSub, Int.reduceNeg, Int.reduceBEq, Int.reduceBNe, Nat.reduceBNe, Nat.reduceDiv, Nat.reduceMod, hwr]), ⟨G ++ [⟨.one, 0, 3, 1, fun _ => c.cells⟩], ?_⟩⟩
      rw [hst, hs2]
      rfl
  · subst hk1
    rw [List.take_length] at hS
    have e : sumG g l = S := hS.symm
    rw [e]
    refine kont_of_hx cx_ok hb 200 ?_
    simp only [go_sem, Nat.reduceAdd, Nat.reduceSub, Nat.reduceMul, Nat.reduceBEq, Nat.reduceLT, Nat.reduceLeDiff, Nat.reduceEqDiff, Int.reduceToNat, Int.reduceLE, Int.reduceLT, Int.reduceAdd, Int.reduceSub, Int.reduceNeg, Int.reduceBEq, Int.reduceBNe, Nat.reduceBNe, Nat.reduceDiv, Nat.reduceMod, hgetA, hgetL, hgetLk, hsetA, hsetL, hsetLk, List.length_append, List.length_set, List.append_assoc, List.set_set, oNum]
    exact ⟨_, rfl⟩
theorem sslope1_ok (h : List Ob) (c : Nc) (hc : c.Lt) : RFn0 Tryz.prog 101 h [dnc c] (fun d => d = num c.b) := by
  refine RFn0_hx cx_ok 200 Tryz.func101 rfl Tryz.ntmps101 Tryz.results101 rfl fun base w pl F hF hFl hb => ?_
  simp only [go_sem, Nat.reduceAdd, Nat.reduceSub, Nat.reduceMul, Nat.reduceBEq, Nat.reduceLT, Nat.reduceLeDiff, Nat.reduceEqDiff, Int.reduceToNat, Int.reduceLE, Int.reduceLT, Int.reduceAdd, Int.reduceSub, Int.reduceNeg, Int.reduceBEq, Int.reduceBNe, Nat.reduceBNe, Nat.reduceDiv, Nat.reduceMod, hgetA, hgetL, hgetLk, hsetA, hsetL, hsetLk, List.length_append, List.length_set, List.append_assoc, List.set_set]
  refine kont_call hb fn102 rfl ?_ (of_ok c.b hc.2.2) (Ret.flat rfl) rfl fun d h hR => ?_
  · simp only [go_sem, Nat.reduceAdd, Nat.reduceSub, Nat.reduceMul, Nat.reduceBEq, Nat.reduceLT, Nat.reduceLeDiff, Nat.reduceEqDiff, Int.reduceToNat, Int.reduceLE, Int.reduceLT, Int.reduceAdd, Int.reduceSub, Int.reduceNeg, Int.reduceBEq, Int.reduceBNe, Nat.reduceBNe, Nat.reduceDiv, Nat.reduceMod, hgetA, hgetL, hgetLk, hsetA, hsetL, hsetLk, List.length_append, List.length_set, List.append_assoc, List.set_set]
  obtain ⟨rfl, rfl⟩ := hR
  refine kont_of_hx cx_ok hb 200 ?_
  simp only [go_sem, Nat.reduceAdd, Nat.reduceSub, Nat.reduceMul, Nat.reduceBEq, Nat.reduceLT, Nat.reduceLeDiff, Nat.reduceEqDiff, Int.reduceToNat, Int.reduceLE, Int.reduceLT, Int.reduceAdd, Int.reduceSub, Int.reduceNeg, Int.reduceBEq, Int.reduceBNe, Nat.reduceBNe, Nat.reduceDiv, Nat.reduceMod, hgetA, hgetL, hgetLk, hsetA, hsetL, hsetLk, List.length_append, List.length_set, List.append_assoc, List.set_set]
  exact ⟨_, rfl⟩
theorem sslope_ok (l : List Nc) (hl : l.length < 1048576) (hc : ∀ c ∈ l, c.Lt) : AFn Tryz.prog 78 [ncs l] (Ret (num (sumG (fun c => c.b) l))) := by
  refine AFn_hxk 0 cx_ok 200 Tryz.func78 rfl Tryz.ntmps78 Tryz.results78 rfl fun base w hb => ?_
  simp only [go_sem, Nat.reduceAdd, Nat.reduceSub, Nat.reduceMul, Nat.reduceBEq, Nat.reduceLT, Nat.reduceLeDiff, Nat.reduceEqDiff, Int.reduceToNat, Int.reduceLE, Int.reduceLT, Int.reduceAdd, Int.reduceSub, Int.reduceNeg, Int.reduceBEq, Int.reduceBNe, Nat.reduceBNe, Nat.reduceDiv, Nat.reduceMod]
  refine kont_callR0 hb fn100 rfl ?_ (sover_ok _ l hl hc (.raw (.func (.func 101) ⟨[]⟩ ⟨[]⟩)) 101 0 [] fn101 rfl (fun c => c.b) (fun c h => by have := h.2.2; omega) (fun h' c hc _ => sslope1_ok h' c hc)) rfl fun d2 hR => ?_
  · simp only [go_sem, Nat.reduceAdd, Nat.reduceSub, Nat.reduceMul, Nat.reduceBEq, Nat.reduceLT, Nat.reduceLeDiff, Nat.reduceEqDiff, Int.reduceToNat, Int.reduceLE, Int.reduceLT, Int.reduceAdd, Int.reduceSub, Int.reduceNeg, Int.reduceBEq, Int.reduceBNe, Nat.reduceBNe, Nat.reduceDiv, Nat.reduceMod]
  subst hR
  refine kont_of_hx cx_ok hb 200 ?_
  simp only [go_sem, Nat.reduceAdd, Nat.reduceSub, Nat.reduceMul, Nat.reduceBEq, Nat.reduceLT, Nat.reduceLeDiff, Nat.reduceEqDiff, Int.reduceToNat, Int.reduceLE, Int.reduceLT, Int.reduceAdd, Int.reduceSub, Int.reduceNeg, Int.reduceBEq, Int.reduceBNe, Nat.reduceBNe, Nat.reduceDiv, Nat.reduceMod]
theorem sserv1_ok (h : List Ob) (b1 t : Nat) (ht : t < 18446744073709551616) (c : Nc) (h1 : (h.map Ob.ro)[b1]? = some ⟨.rone, 0, 1, 1, fun _ => [u64 t]⟩) : RFn0 Tryz.prog 105 h [dnc c, .ptr b1 0 0 0] (fun d => d = num (serV c.a c.d c.b t)) := by
  refine RFn0_hx cx_ok 200 Tryz.func105 rfl Tryz.ntmps105 Tryz.results105 rfl fun base w pl F hF hFl hb => ?_
  rw [← hF] at h1
  have h1_l := hlt h1
  simp only [go_sem, Nat.reduceAdd, Nat.reduceSub, Nat.reduceMul, Nat.reduceBEq, Nat.reduceLT, Nat.reduceLeDiff, Nat.reduceEqDiff, Int.reduceToNat, Int.reduceLE, Int.reduceLT, Int.reduceAdd, Int.reduceSub, Int.reduceNeg, Int.reduceBEq, Int.reduceBNe, Nat.reduceBNe, Nat.reduceDiv, Nat.reduceMod, hgetA, hgetL, hgetLk, hsetA, hsetL, hsetLk, List.length_append, List.length_set, List.append_assoc, List.set_set, h1, h1_l]
  refine kont_call hb fn48 rfl ?_ (service_ok c.a c.d c.b t ht) (Ret.flat rfl) rfl fun d h hR => ?_
  · simp only [go_sem, Nat.reduceAdd, Nat.reduceSub, Nat.reduceMul, Nat.reduceBEq, Nat.reduceLT, Nat.reduceLeDiff, Nat.reduceEqDiff, Int.reduceToNat, Int.reduceLE, Int.reduceLT, Int.reduceAdd, Int.reduceSub, Int.reduceNeg, Int.reduceBEq, Int.reduceBNe, Nat.reduceBNe, Nat.reduceDiv, Nat.reduceMod, hgetA, hgetL, hgetLk, hsetA, hsetL, hsetLk, List.length_append, List.length_set, List.append_assoc, List.set_set, h1, h1_l]
  obtain ⟨rfl, rfl⟩ := hR
  refine kont_of_hx cx_ok hb 200 ?_
  simp only [go_sem, Nat.reduceAdd, Nat.reduceSub, Nat.reduceMul, Nat.reduceBEq, Nat.reduceLT, Nat.reduceLeDiff, Nat.reduceEqDiff, Int.reduceToNat, Int.reduceLE, Int.reduceLT, Int.reduceAdd, Int.reduceSub, Int.reduceNeg, Int.reduceBEq, Int.reduceBNe, Nat.reduceBNe, Nat.reduceDiv, Nat.reduceMod, hgetA, hgetL, hgetLk, hsetA, hsetL, hsetLk, List.length_append, List.length_set, List.append_assoc, List.set_set, h1, h1_l]
  exact ⟨_, rfl⟩
theorem sservice_ok (l : List Nc) (t : Nat) (ht : t < 18446744073709551616) (hl : l.length < 1048576) (hc : ∀ c ∈ l, c.Lt) : AFn Tryz.prog 80 [ncs l, u64 t] (Ret (num (sumG (fun c => serV c.a c.d c.b t) l))) := by
  have hM : ∀ c : Nc, c.Lt → serV c.a c.d c.b t ≤ 2 ^ 97 := fun c _ => by have := serV_lt c.a c.d c.b t ht; omega
  refine AFn_hxk 0 cx_ok 200 Tryz.func80 rfl Tryz.ntmps80 Tryz.results80 rfl fun base w hb => ?_
  simp only [go_sem, Nat.reduceAdd, Nat.reduceSub, Nat.reduceMul, Nat.reduceBEq, Nat.reduceLT, Nat.reduceLeDiff, Nat.reduceEqDiff, Int.reduceToNat, Int.reduceLE, Int.reduceLT, Int.reduceAdd, Int.reduceSub, Int.reduceNeg, Int.reduceBEq, Int.reduceBNe, Nat.reduceBNe, Nat.reduceDiv, Nat.reduceMod]
  have hT : TellsN (([⟨.one, 0, 1, 1, fun _ => [u64 t]⟩, oNum 0] : List Ob).map Ob.ro) 105 0 [.ptr 0 0 0 0] (fun c => serV c.a c.d c.b t) := fun h' c hc hx => by
    obtain ⟨g, rfl⟩ := hx
    exact sserv1_ok _ 0 t ht c rfl
  refine kont_callR0 hb fn100 rfl ?_ (sover_ok _ l hl hc (.clo 105 0 [.ptr 0 0 0 0]) 105 0 [.ptr 0 0 0 0] fn105 rfl (fun c => serV c.a c.d c.b t) hM hT) rfl fun d2 hR => ?_
  · simp only [go_sem, Nat.reduceAdd, Nat.reduceSub, Nat.reduceMul, Nat.reduceBEq, Nat.reduceLT, Nat.reduceLeDiff, Nat.reduceEqDiff, Int.reduceToNat, Int.reduceLE, Int.reduceLT, Int.reduceAdd, Int.reduceSub, Int.reduceNeg, Int.reduceBEq, Int.reduceBNe, Nat.reduceBNe, Nat.reduceDiv, Nat.reduceMod]
  subst hR
  refine kont_of_hx cx_ok hb 200 ?_
  simp only [go_sem, Nat.reduceAdd, Nat.reduceSub, Nat.reduceMul, Nat.reduceBEq, Nat.reduceLT, Nat.reduceLeDiff, Nat.reduceEqDiff, Int.reduceToNat, Int.reduceLE, Int.reduceLT, Int.reduceAdd, Int.reduceSub, Int.reduceNeg, Int.reduceBEq, Int.reduceBNe, Nat.reduceBNe, Nat.reduceDiv, Nat.reduceMod]
end Go.Fg.X
namespace Go.Fg.X
open Go.Proofs Go.Fg
set_option maxRecDepth 100000
set_option maxHeartbeats 4000000
set_option linter.unusedSimpArgs false
set_option linter.unusedVariables false
theorem w641 : IntKind.i64.wrap 1 = 1 := by decide
theorem w640 : IntKind.i64.wrap 0 = 0 := by decide
theorem wu640 : IntKind.u64.wrap 0 = 0 := by decide
theorem wu80 : IntKind.u8.wrap 0 = 0 := by decide
theorem len64z_ok : AFn Tryz.prog 137 [u64 0] (Ret (dint 0)) := by
  refine AFn_hxk 0 cx_ok 200 Tryz.func137 rfl Tryz.ntmps137 Tryz.results137 rfl fun base w hb => ?_
  simp only [go_sem, Nat.reduceAdd, Nat.reduceSub, Nat.reduceMul, Nat.reduceBEq, Nat.reduceLT, Nat.reduceLeDiff, Nat.reduceEqDiff, Int.reduceToNat, Int.reduceLE, Int.reduceLT, Int.reduceAdd, Int.reduceSub, Int.reduceNeg, Int.reduceBEq, Int.reduceBNe, Nat.reduceBNe, Nat.reduceDiv, Nat.reduceMod]
  exact ⟨by decide +kernel, congrArg D.raw (congrArg (Value.int .i64) (by decide +kernel))⟩
theorem lenz_ok : AFn Tryz.prog 121 [u64 0] (Ret (dint 0)) := by
  refine AFn_hxk 0 cx_ok 200 Tryz.func121 rfl Tryz.ntmps121 Tryz.results121 rfl fun base w hb => ?_
  simp only [go_sem, Nat.reduceAdd, Nat.reduceSub, Nat.reduceMul, Nat.reduceBEq, Nat.reduceLT, Nat.reduceLeDiff, Nat.reduceEqDiff, Int.reduceToNat, Int.reduceLE, Int.reduceLT, Int.reduceAdd, Int.reduceSub, Int.reduceNeg, Int.reduceBEq, Int.reduceBNe, Nat.reduceBNe, Nat.reduceDiv, Nat.reduceMod]
  refine kont_call hb fn137 rfl ?_ len64z_ok (Ret.flat rfl) rfl fun d h hR => ?_
  · simp only [go_sem, Nat.reduceAdd, Nat.reduceSub, Nat.reduceMul, Nat.reduceBEq, Nat.reduceLT, Nat.reduceLeDiff, Nat.reduceEqDiff, Int.reduceToNat, Int.reduceLE, Int.reduceLT, Int.reduceAdd, Int.reduceSub, Int.reduceNeg, Int.reduceBEq, Int.reduceBNe, Nat.reduceBNe, Nat.reduceDiv, Nat.reduceMod]
  obtain ⟨rfl, rfl⟩ := hR
  refine kont_of_hx cx_ok hb 200 ?_
  simp only [go_sem, Nat.reduceAdd, Nat.reduceSub, Nat.reduceMul, Nat.reduceBEq, Nat.reduceLT, Nat.reduceLeDiff, Nat.reduceEqDiff, Int.reduceToNat, Int.reduceLE, Int.reduceLT, Int.reduceAdd, Int.reduceSub, Int.reduceNeg, Int.reduceBEq, Int.reduceBNe, Nat.reduceBNe, Nat.reduceDiv, Nat.reduceMod]
theorem insz_ok : AFn Tryz.prog 138 [.nil, dint 0, dint 0] (Ret (.tup [])) := by
  refine AFn_hxk 0 cx_ok 200 Tryz.func138 rfl Tryz.ntmps138 Tryz.results138 rfl fun base w hb => ?_
  simp only [go_sem, Nat.reduceAdd, Nat.reduceSub, Nat.reduceMul, Nat.reduceBEq, Nat.reduceLT, Nat.reduceLeDiff, Nat.reduceEqDiff, Int.reduceToNat, Int.reduceLE, Int.reduceLT, Int.reduceAdd, Int.reduceSub, Int.reduceNeg, Int.reduceBEq, Int.reduceBNe, Nat.reduceBNe, Nat.reduceDiv, Nat.reduceMod]
  refine kont_for (fun k s => s = ⟨[(0, .nil), (1, dint 0), (2, dint 0), (6, dint 1)], []⟩) 0 (Weak.frame (by simp only [go_sem, Nat.reduceAdd, Nat.reduceSub, Nat.reduceMul, Nat.reduceBEq, Nat.reduceLT, Nat.reduceLeDiff, Nat.reduceEqDiff, Int.reduceToNat, Int.reduceLE, Int.reduceLT, Int.reduceAdd, Int.reduceSub, Int.reduceNeg, Int.reduceBEq, Int.reduceBNe, Nat.reduceBNe, Nat.reduceDiv, Nat.reduceMod, w641])) rfl ?_
  rintro k s hk rfl
  refine kont_of_hx cx_ok hb 200 ?_
  simp only [go_sem, Nat.reduceAdd, Nat.reduceSub, Nat.reduceMul, Nat.reduceBEq, Nat.reduceLT, Nat.reduceLeDiff, Nat.reduceEqDiff, Int.reduceToNat, Int.reduceLE, Int.reduceLT, Int.reduceAdd, Int.reduceSub, Int.reduceNeg, Int.reduceBEq, Int.reduceBNe, Nat.reduceBNe, Nat.reduceDiv, Nat.reduceMod, w641]
theorem pdqz_ok : AFn Tryz.prog 122 [.nil, dint 0, dint 0, dint 0] (Ret (.tup [])) := by
  refine AFn_hxk 0 cx_ok 200 Tryz.func122 rfl Tryz.ntmps122 Tryz.results122 rfl fun base w hb => ?_
  simp only [go_sem, Nat.reduceAdd, Nat.reduceSub, Nat.reduceMul, Nat.reduceBEq, Nat.reduceLT, Nat.reduceLeDiff, Nat.reduceEqDiff, Int.reduceToNat, Int.reduceLE, Int.reduceLT, Int.reduceAdd, Int.reduceSub, Int.reduceNeg, Int.reduceBEq, Int.reduceBNe, Nat.reduceBNe, Nat.reduceDiv, Nat.reduceMod]
  refine kont_for (fun k s => s = ⟨[(0, .nil), (1, dint 0), (2, dint 0), (3, dint 0)], []⟩) 0 (Weak.frame (by simp only [go_sem, Nat.reduceAdd, Nat.reduceSub, Nat.reduceMul, Nat.reduceBEq, Nat.reduceLT, Nat.reduceLeDiff, Nat.reduceEqDiff, Int.reduceToNat, Int.reduceLE, Int.reduceLT, Int.reduceAdd, Int.reduceSub, Int.reduceNeg, Int.reduceBEq, Int.reduceBNe, Nat.reduceBNe, Nat.reduceDiv, Nat.reduceMod])) rfl ?_
  rintro k s hk rfl
  refine kont_of_hx cx_ok hb 200 ?_
  simp only [go_sem, Nat.reduceAdd, Nat.reduceSub, Nat.reduceMul, Nat.reduceBEq, Nat.reduceLT, Nat.reduceLeDiff, Nat.reduceEqDiff, Int.reduceToNat, Int.reduceLE, Int.reduceLT, Int.reduceAdd, Int.reduceSub, Int.reduceNeg, Int.reduceBEq, Int.reduceBNe, Nat.reduceBNe, Nat.reduceDiv, Nat.reduceMod, w640]
  refine kont_call hb fn138 rfl ?_ insz_ok (Ret.flat rfl) rfl fun d h hR => ?_
  · simp only [go_sem, Nat.reduceAdd, Nat.reduceSub, Nat.reduceMul, Nat.reduceBEq, Nat.reduceLT, Nat.reduceLeDiff, Nat.reduceEqDiff, Int.reduceToNat, Int.reduceLE, Int.reduceLT, Int.reduceAdd, Int.reduceSub, Int.reduceNeg, Int.reduceBEq, Int.reduceBNe, Nat.reduceBNe, Nat.reduceDiv, Nat.reduceMod]
  obtain ⟨rfl, rfl⟩ := hR
  refine kont_of_hx cx_ok hb 200 ?_
  simp only [go_sem, Nat.reduceAdd, Nat.reduceSub, Nat.reduceMul, Nat.reduceBEq, Nat.reduceLT, Nat.reduceLeDiff, Nat.reduceEqDiff, Int.reduceToNat, Int.reduceLE, Int.reduceLT, Int.reduceAdd, Int.reduceSub, Int.reduceNeg, Int.reduceBEq, Int.reduceBNe, Nat.reduceBNe, Nat.reduceDiv, Nat.reduceMod]
theorem compz_ok : AFn Tryz.prog 104 [.nil] (Ret .nil) := by
  refine AFn_hxk 0 cx_ok 200 Tryz.func104 rfl Tryz.ntmps104 Tryz.results104 rfl fun base w hb => ?_
  simp only [go_sem, Nat.reduceAdd, Nat.reduceSub, Nat.reduceMul, Nat.reduceBEq, Nat.reduceLT, Nat.reduceLeDiff, Nat.reduceEqDiff, Int.reduceToNat, Int.reduceLE, Int.reduceLT, Int.reduceAdd, Int.reduceSub, Int.reduceNeg, Int.reduceBEq, Int.reduceBNe, Nat.reduceBNe, Nat.reduceDiv, Nat.reduceMod]
theorem sortz_ok : AFn Tryz.prog 103 [.nil] (Ret (.tup [])) := by
  refine AFn_hxk 0 cx_ok 200 Tryz.func103 rfl Tryz.ntmps103 Tryz.results103 rfl fun base w hb => ?_
  simp only [go_sem, Nat.reduceAdd, Nat.reduceSub, Nat.reduceMul, Nat.reduceBEq, Nat.reduceLT, Nat.reduceLeDiff, Nat.reduceEqDiff, Int.reduceToNat, Int.reduceLE, Int.reduceLT, Int.reduceAdd, Int.reduceSub, Int.reduceNeg, Int.reduceBEq, Int.reduceBNe, Nat.reduceBNe, Nat.reduceDiv, Nat.reduceMod]
  refine kont_call hb fn121 rfl ?_ lenz_ok (Ret.flat rfl) rfl fun d h hR => ?_
  · simp only [go_sem, Nat.reduceAdd, Nat.reduceSub, Nat.reduceMul, Nat.reduceBEq, Nat.reduceLT, Nat.reduceLeDiff, Nat.reduceEqDiff, Int.reduceToNat, Int.reduceLE, Int.reduceLT, Int.reduceAdd, Int.reduceSub, Int.reduceNeg, Int.reduceBEq, Int.reduceBNe, Nat.reduceBNe, Nat.reduceDiv, Nat.reduceMod, w640, wu640]
  obtain ⟨rfl, rfl⟩ := hR
  refine kont_of_hx cx_ok hb 200 ?_
  simp only [go_sem, Nat.reduceAdd, Nat.reduceSub, Nat.reduceMul, Nat.reduceBEq, Nat.reduceLT, Nat.reduceLeDiff, Nat.reduceEqDiff, Int.reduceToNat, Int.reduceLE, Int.reduceLT, Int.reduceAdd, Int.reduceSub, Int.reduceNeg, Int.reduceBEq, Int.reduceBNe, Nat.reduceBNe, Nat.reduceDiv, Nat.reduceMod, w640, wu640]
  refine kont_call hb fn122 rfl ?_ pdqz_ok (Ret.flat rfl) rfl fun d h hR => ?_
  · simp only [go_sem, Nat.reduceAdd, Nat.reduceSub, Nat.reduceMul, Nat.reduceBEq, Nat.reduceLT, Nat.reduceLeDiff, Nat.reduceEqDiff, Int.reduceToNat, Int.reduceLE, Int.reduceLT, Int.reduceAdd, Int.reduceSub, Int.reduceNeg, Int.reduceBEq, Int.reduceBNe, Nat.reduceBNe, Nat.reduceDiv, Nat.reduceMod]
  obtain ⟨rfl, rfl⟩ := hR
  refine kont_of_hx cx_ok hb 200 ?_
  simp only [go_sem, Nat.reduceAdd, Nat.reduceSub, Nat.reduceMul, Nat.reduceBEq, Nat.reduceLT, Nat.reduceLeDiff, Nat.reduceEqDiff, Int.reduceToNat, Int.reduceLE, Int.reduceLT, Int.reduceAdd, Int.reduceSub, Int.reduceNeg, Int.reduceBEq, Int.reduceBNe, Nat.reduceBNe, Nat.reduceDiv, Nat.reduceMod]
theorem idxz_ok (h : List Ob) (so : D) : RFn0 Tryz.prog 108 h [.nil, so] (fun d => d = dint (-1)) := by
  refine RFn0_hx cx_ok 200 Tryz.func108 rfl Tryz.ntmps108 Tryz.results108 rfl fun base w pl F hF hFl hb => ?_
  simp only [go_sem, Nat.reduceAdd, Nat.reduceSub, Nat.reduceMul, Nat.reduceBEq, Nat.reduceLT, Nat.reduceLeDiff, Nat.reduceEqDiff, Int.reduceToNat, Int.reduceLE, Int.reduceLT, Int.reduceAdd, Int.reduceSub, Int.reduceNeg, Int.reduceBEq, Int.reduceBNe, Nat.reduceBNe, Nat.reduceDiv, Nat.reduceMod, hgetA, hgetL, hgetLk, hsetA, hsetL, hsetLk, List.length_append, List.length_set, List.append_assoc, List.set_set]
  refine kont_for (fun k s => s = ⟨[(7, dint 0), (8, dint 0)], F⟩) 0 (Weak.frame (by simp only [go_sem, Nat.reduceAdd, Nat.reduceSub, Nat.reduceMul, Nat.reduceBEq, Nat.reduceLT, Nat.reduceLeDiff, Nat.reduceEqDiff, Int.reduceToNat, Int.reduceLE, Int.reduceLT, Int.reduceAdd, Int.reduceSub, Int.reduceNeg, Int.reduceBEq, Int.reduceBNe, Nat.reduceBNe, Nat.reduceDiv, Nat.reduceMod])) rfl ?_
  rintro k s hk rfl
  refine kont_of_hx cx_ok hb 200 ?_
  simp only [go_sem, Nat.reduceAdd, Nat.reduceSub, Nat.reduceMul, Nat.reduceBEq, Nat.reduceLT, Nat.reduceLeDiff, Nat.reduceEqDiff, Int.reduceToNat, Int.reduceLE, Int.reduceLT, Int.reduceAdd, Int.reduceSub, Int.reduceNeg, Int.reduceBEq, Int.reduceBNe, Nat.reduceBNe, Nat.reduceDiv, Nat.reduceMod, hgetA, hgetL, hgetLk, hsetA, hsetL, hsetLk, List.length_append, List.length_set, List.append_assoc, List.set_set]
  refine kont_of_hx cx_ok hb 200 ?_
  simp only [go_sem, Nat.reduceAdd, Nat.reduceSub, Nat.reduceMul, Nat.reduceBEq, Nat.reduceLT, Nat.reduceLeDiff, Nat.reduceEqDiff, Int.reduceToNat, Int.reduceLE, Int.reduceLT, Int.reduceAdd, Int.reduceSub, Int.reduceNeg, Int.reduceBEq, Int.reduceBNe, Nat.reduceBNe, Nat.reduceDiv, Nat.reduceMod, hgetA, hgetL, hgetLk, hsetA, hsetL, hsetLk, List.length_append, List.length_set, List.append_assoc, List.set_set]
  exact ⟨[], (List.append_nil F).symm⟩
end Go.Fg.X
namespace Go.Fg.X
open Go.Proofs Go.Fg
set_option maxRecDepth 100000
set_option maxHeartbeats 4000000
set_option linter.unusedSimpArgs false
set_option linter.unusedVariables false
/-- What a function value tells of a curve. -/
def TellsC (F : List Ob) (f nf : Nat) (caps : List D) (g : Nc → Bool) : Prop := ∀ (h : List Ob) (c : Nc), ExtF F h → RFn0 Tryz.prog f h (argsD nf caps [dnc c]) (fun d => d = dbool (g c))
def firstC (g : Nc → Bool) (l : List Nc) : Int := match l.findIdx? g with
  | some i => i
  | none => -1
theorem firstC_at {g : Nc → Bool} {l : List Nc} {k : Nat} (hk : k < l.length) (h : ∀ i, i < k → g (l.getD i default) = false) (hg : g (l.getD k default) = true) : firstC g l = k := by
  have e : l.findIdx? g = some k := by
    rw [List.findIdx?_eq_some_iff_getElem]
    refine ⟨hk, by simpa [List.getD_eq_getElem?_getD, hk] using hg, fun i hi => ?_⟩
    have := h i hi
    simpa [List.getD_eq_getElem?_getD, show i < l.length by omega] using this
  rw [firstC, e]
theorem firstC_none {g : Nc → Bool} {l : List Nc} (h : ∀ i, i < l.length → g (l.getD i default) = false) : firstC g l = -1 := by
  have e : l.findIdx? g = none := by
    rw [List.findIdx?_eq_none_iff]
    intro x hx
    obtain ⟨i, hi, rfl⟩ := List.getElem_of_mem hx
    have := h i hi
    simpa [List.getD_eq_getElem?_getD, hi] using this
  rw [firstC, e]
theorem firstC_any (g : Nc → Bool) (l : List Nc) : decide (0 ≤ firstC g l) = l.any g := by
  unfold firstC
  cases h : l.findIdx? g with
  | some i =>
    obtain ⟨h1, h2, _⟩ := List.findIdx?_eq_some_iff_getElem.1 h
    have e : l.any g = true := List.any_eq_true.2 ⟨_, List.getElem_mem h1, h2⟩
    rw [e]; simp
  | none =>
    have := List.findIdx?_eq_none_iff.1 h
    have e : l.any g = false := by rw [List.any_eq_false]; intro x hx; simp [this x hx]
    rw [e]; decide
section
variable (h : List Ob) (l : List Nc) (hlen : l.length < 1048576)
include hlen
theorem indexC_ok (so : D) (f nf : Nat) (caps : List D) (hf : FnOk Tryz.prog f) (hso : calleeD so = some (f, nf, caps)) (gk : Nc → Bool) (hg : TellsC (h.map Ob.ro) f nf caps gk) :
    RFn0 Tryz.prog 123 h [ncs l, so] (fun d => d = dint (firstC gk l)) := by
  refine RFn0_hx cx_ok 200 Tryz.func123 rfl Tryz.ntmps123 Tryz.results123 rfl fun base w pl F hF hFl hb => ?_
  simp only [go_sem, Nat.reduceAdd, Nat.reduceSub, Nat.reduceMul, Nat.reduceBEq, Nat.reduceLT, Nat.reduceLeDiff, Nat.reduceEqDiff, Int.reduceToNat, Int.reduceLE, Int.reduceLT, Int.reduceAdd, Int.reduceSub, Int.reduceNeg, Int.reduceBEq, Int.reduceBNe, Nat.reduceBNe, Nat.reduceDiv, Nat.reduceMod, hgetA, hgetL, hgetLk, hsetA, hsetL, hsetLk, List.length_append, List.length_set, List.append_assoc, List.set_set]
  refine kont_for (fun k s => (∀ i, i < k → gk (l.getD i default) = false) ∧ s = ⟨[(0, ncs l), (1, so), (7, dint l.length), (8, dint k)], F⟩) l.length (Weak.frame (by simp only [go_sem, Nat.reduceAdd, Nat.reduceSub, Nat.reduceMul, Nat.reduceBEq, Nat.reduceLT, Nat.reduceLeDiff, Nat.reduceEqDiff, Int.reduceToNat, Int.reduceLE, Int.reduceLT, Int.reduceAdd, Int.reduceSub, Int.reduceNeg, Int.reduceBEq, Int.reduceBNe, Nat.reduceBNe, Nat.reduceDiv, Nat.reduceMod])) ⟨fun i hi => absurd hi (by omega), rfl⟩ ?_
  rintro k s hk ⟨hn, rfl⟩
  refine kont_of_hx cx_ok hb 200 ?_
  simp only [go_sem, Nat.reduceAdd, Nat.reduceSub, Nat.reduceMul, Nat.reduceBEq, Nat.reduceLT, Nat.reduceLeDiff, Nat.reduceEqDiff, Int.reduceToNat, Int.reduceLE, Int.reduceLT, Int.reduceAdd, Int.reduceSub, Int.reduceNeg, Int.reduceBEq, Int.reduceBNe, Nat.reduceBNe, Nat.reduceDiv, Nat.reduceMod, hgetA, hgetL, hgetLk, hsetA, hsetL, hsetLk, List.length_append, List.length_set, List.append_assoc, List.set_set]
  have hwr := wrap_succ (show k < 4611686018427387904 by omega)
  first | refine hite_lt hk (fun hk1 => ?_) (fun hk1 => ?_) | refine hite_ltI hk (fun hk1 => ?_) (fun hk1 => ?_)
  · simp only [go_sem, Nat.reduceAdd, Nat.reduceSub, Nat.reduceMul, Nat.reduceBEq, Nat.reduceLT, Nat.reduceLeDiff, Nat.reduceEqDiff, Int.reduceToNat, Int.reduceLE, Int.reduceLT, Int.reduceAdd, Int.reduceSub, Int.reduceNeg, Int.reduceBEq, Int.reduceBNe, Nat.reduceBNe, Nat.reduceDiv, Nat.reduceMod, hgetA, hgetL, hgetLk, hsetA, hsetL, hsetLk, List.length_append, List.length_set, List.append_assoc, List.set_set, hk1]
    refine kont_callR0 hb hf hso ?_ (hg F (l.getD k default) (by rw [← hF]; exact ExtF.refl F)) rfl fun d2 hR => ?_
    · simp only [go_sem, Nat.reduceAdd, Nat.reduceSub, Nat.reduceMul, Nat.reduceBEq, Nat.reduceLT, Nat.reduceLeDiff, Nat.reduceEqDiff, Int.reduceToNat, Int.reduceLE, Int.reduceLT, Int.reduceAdd, Int.reduceSub, Int.reduceNeg, Int.reduceBEq, Int.reduceBNe, Nat.reduceBNe, Nat.reduceDiv, Nat.reduceMod]
      exact argsEq_refl _
    subst hR
    refine kont_of_hx cx_ok hb 200 ?_
    cases hgk : gk (l.getD k default)
    · simp only [go_sem, Nat.reduceAdd, Nat.reduceSub, Nat.reduceMul, Nat.reduceBEq, Nat.reduceLT, Nat.reduceLeDiff, Nat.reduceEqDiff, Int.reduceToNat, Int.reduceLE, Int.reduceLT, Int.reduceAdd, Int.reduceSub, Int.reduceNeg, Int.reduceBEq, Int.reduceBNe, Nat.reduceBNe, Nat.reduceDiv, Nat.reduceMod, hgetA, hgetL, hgetLk, hsetA, hsetL, hsetLk, List.length_append, List.length_set, List.append_assoc, List.set_set]
      refine ⟨hk1, _, Weak.frame (fr' := [(0, ncs l), (1, so), (7, dint l.length), (8, dint (k + 1 : Nat))]) (by simp only [go_sem, Nat.reduceAdd, Nat.reduceSub, Nat.reduceMul, Nat.reduceBEq, Nat.reduceLT, Nat.reduceLeDiff, Nat.reduceEqDiff, Int.reduceToNat, Int.reduceLE, Int.reduceLT, Int.reduceAdd, Int.reduceSub, Int.reduceNeg, Int.reduceBEq, Int.reduceBNe, Nat.reduceBNe, Nat.reduceDiv, Nat.reduceMod, hwr]), fun i hi => ?_, rfl⟩
      by_cases h1 : i < k
      · exact hn i h1
      · have : i = k := by omega
        subst this; exact hgk
    · rw [firstC_at hk1 hn hgk]
      simp only [go_sem, Nat.reduceAdd, Nat.reduceSub, Nat.reduceMul, Nat.reduceBEq, Nat.reduceLT, Nat.reduceLeDiff, Nat.reduceEqDiff, Int.reduceToNat, Int.reduceLE, Int.reduceLT, Int.reduceAdd, Int.reduceSub, Int.reduceNeg, Int.reduceBEq, Int.reduceBNe, Nat.reduceBNe, Nat.reduceDiv, Nat.reduceMod, hgetA, hgetL, hgetLk, hsetA, hsetL, hsetLk, List.length_append, List.length_set, List.append_assoc, List.set_set]
      exact ⟨[], (List.append_nil F).symm⟩
  · have hk1 : k = l.length := by omega
    subst hk1
    simp only [go_sem, Nat.reduceAdd, Nat.reduceSub, Nat.reduceMul, Nat.reduceBEq, Nat.reduceLT, Nat.reduceLeDiff, Nat.reduceEqDiff, Int.reduceToNat, Int.reduceLE, Int.reduceLT, Int.reduceAdd, Int.reduceSub, Int.reduceNeg, Int.reduceBEq, Int.reduceBNe, Nat.reduceBNe, Nat.reduceDiv, Nat.reduceMod, Nat.lt_irrefl]
    rw [firstC_none hn]
    refine kont_of_hx cx_ok hb 200 ?_
    simp only [go_sem, Nat.reduceAdd, Nat.reduceSub, Nat.reduceMul, Nat.reduceBEq, Nat.reduceLT, Nat.reduceLeDiff, Nat.reduceEqDiff, Int.reduceToNat, Int.reduceLE, Int.reduceLT, Int.reduceAdd, Int.reduceSub, Int.reduceNeg, Int.reduceBEq, Int.reduceBNe, Nat.reduceBNe, Nat.reduceDiv, Nat.reduceMod, hgetA, hgetL, hgetLk, hsetA, hsetL, hsetLk, List.length_append, List.length_set, List.append_assoc, List.set_set]
    exact ⟨[], (List.append_nil F).symm⟩
theorem containsC_ok (so : D) (f nf : Nat) (caps : List D) (hf : FnOk Tryz.prog f) (hso : calleeD so = some (f, nf, caps)) (gk : Nc → Bool) (hg : TellsC (h.map Ob.ro) f nf caps gk) :
    RFn0 Tryz.prog 106 h [ncs l, so] (fun d => d = dbool (l.any gk)) := by
  rw [← firstC_any]
  refine RFn0_hx cx_ok 200 Tryz.func106 rfl Tryz.ntmps106 Tryz.results106 rfl fun base w pl F hF hFl hb => ?_
  simp only [go_sem, Nat.reduceAdd, Nat.reduceSub, Nat.reduceMul, Nat.reduceBEq, Nat.reduceLT, Nat.reduceLeDiff, Nat.reduceEqDiff, Int.reduceToNat, Int.reduceLE, Int.reduceLT, Int.reduceAdd, Int.reduceSub, Int.reduceNeg, Int.reduceBEq, Int.reduceBNe, Nat.reduceBNe, Nat.reduceDiv, Nat.reduceMod, hgetA, hgetL, hgetLk, hsetA, hsetL, hsetLk, List.length_append, List.length_set, List.append_assoc, List.set_set]
  refine kont_callR0 hb fn123 rfl ?_ (indexC_ok F l hlen so f nf caps hf hso gk (fun h' n hx => ?_)) rfl fun d2 hR => ?_
  · simp only [go_sem, Nat.reduceAdd, Nat.reduceSub, Nat.reduceMul, Nat.reduceBEq, Nat.reduceLT, Nat.reduceLeDiff, Nat.reduceEqDiff, Int.reduceToNat, Int.reduceLE, Int.reduceLT, Int.reduceAdd, Int.reduceSub, Int.reduceNeg, Int.reduceBEq, Int.reduceBNe, Nat.reduceBNe, Nat.reduceDiv, Nat.reduceMod]
    exact argEq_refl so
  · rw [hF, roro_map] at hx
    exact hg h' n hx
  subst hR
  refine kont_of_hx cx_ok hb 200 ?_
  simp only [go_sem, Nat.reduceAdd, Nat.reduceSub, Nat.reduceMul, Nat.reduceBEq, Nat.reduceLT, Nat.reduceLeDiff, Nat.reduceEqDiff, Int.reduceToNat, Int.reduceLE, Int.reduceLT, Int.reduceAdd, Int.reduceSub, Int.reduceNeg, Int.reduceBEq, Int.reduceBNe, Nat.reduceBNe, Nat.reduceDiv, Nat.reduceMod, hgetA, hgetL, hgetLk, hsetA, hsetL, hsetLk, List.length_append, List.length_set, List.append_assoc, List.set_set]
  exact ⟨[], (List.append_nil F).symm⟩
end
theorem may1_ok (h : List Ob) (c : Nc) : RFn0 Tryz.prog 107 h [dnc c] (fun d => d = dbool (c.of == 0)) := by
  refine RFn0_hx cx_ok 200 Tryz.func107 rfl Tryz.ntmps107 Tryz.results107 rfl fun base w pl F hF hFl hb => ?_
  simp only [go_sem, Nat.reduceAdd, Nat.reduceSub, Nat.reduceMul, Nat.reduceBEq, Nat.reduceLT, Nat.reduceLeDiff, Nat.reduceEqDiff, Int.reduceToNat, Int.reduceLE, Int.reduceLT, Int.reduceAdd, Int.reduceSub, Int.reduceNeg, Int.reduceBEq, Int.reduceBNe, Nat.reduceBNe, Nat.reduceDiv, Nat.reduceMod, hgetA, hgetL, hgetLk, hsetA, hsetL, hsetLk, List.length_append, List.length_set, List.append_assoc, List.set_set]
  refine kont_call hb fn49 rfl ?_ (right_ok c.a c.d c.b) (Ret.flat rfl) rfl fun d h hR => ?_
  · simp only [go_sem, Nat.reduceAdd, Nat.reduceSub, Nat.reduceMul, Nat.reduceBEq, Nat.reduceLT, Nat.reduceLeDiff, Nat.reduceEqDiff, Int.reduceToNat, Int.reduceLE, Int.reduceLT, Int.reduceAdd, Int.reduceSub, Int.reduceNeg, Int.reduceBEq, Int.reduceBNe, Nat.reduceBNe, Nat.reduceDiv, Nat.reduceMod, hgetA, hgetL, hgetLk, hsetA, hsetL, hsetLk, List.length_append, List.length_set, List.append_assoc, List.set_set]
  obtain ⟨rfl, rfl⟩ := hR
  refine kont_of_hx cx_ok hb 200 ?_
  simp only [go_sem, Nat.reduceAdd, Nat.reduceSub, Nat.reduceMul, Nat.reduceBEq, Nat.reduceLT, Nat.reduceLeDiff, Nat.reduceEqDiff, Int.reduceToNat, Int.reduceLE, Int.reduceLT, Int.reduceAdd, Int.reduceSub, Int.reduceNeg, Int.reduceBEq, Int.reduceBNe, Nat.reduceBNe, Nat.reduceDiv, Nat.reduceMod, hgetA, hgetL, hgetLk, hsetA, hsetL, hsetLk, List.length_append, List.length_set, List.append_assoc, List.set_set]
  refine ⟨_, rfl, ?_⟩
  simp only [bne, Bool.not_not]
  rfl
def badL (l : List Nc) : Bool := l.any fun c => c.of == 0
def mayE (t : Int) (l : List Nc) : Int := if t < 1 ∨ 65536 < t then 1 else if badL l = true then 21 else 0
theorem amay_ok (t : Int) (l : List Nc) (hl : l.length < 1048576) : AFn Tryz.prog 81 [dint t, ncs l] (Ret (dint (mayE t l))) := by
  have hcf := containsC_ok [] l hl (.raw (.func (.func 107) ⟨[]⟩ ⟨[]⟩)) 107 0 [] fn107 rfl (fun c => c.of == 0) (fun h' c _ => may1_ok h' c)
  rw [show (l.any fun c => c.of == 0) = badL l from rfl] at hcf
  refine AFn_hxk 0 cx_ok 200 Tryz.func81 rfl Tryz.ntmps81 Tryz.results81 rfl fun base w hb => ?_
  simp only [go_sem, Nat.reduceAdd, Nat.reduceSub, Nat.reduceMul, Nat.reduceBEq, Nat.reduceLT, Nat.reduceLeDiff, Nat.reduceEqDiff, Int.reduceToNat, Int.reduceLE, Int.reduceLT, Int.reduceAdd, Int.reduceSub, Int.reduceNeg, Int.reduceBEq, Int.reduceBNe, Nat.reduceBNe, Nat.reduceDiv, Nat.reduceMod]
  repeat' (first | ((first | refine hite_dec (fun h => ?_) (fun h => ?_) | refine hite_beq (fun h => ?_) (fun h => ?_) | refine hite_bne (fun h => ?_) (fun h => ?_) | refine hite_intro (fun h => ?_) (fun h => ?_) | refine hite_decA (fun h => ?_) (fun h => ?_) | refine hite_beqA (fun h => ?_) (fun h => ?_) | refine hite_bneA (fun h => ?_) (fun h => ?_) | refine hite_intro' (fun h => ?_) (fun h => ?_)) <;> (try simp only [go_sem, Nat.reduceAdd, Nat.reduceSub, Nat.reduceMul, Nat.reduceBEq, Nat.reduceLT, Nat.reduceLeDiff, Nat.reduceEqDiff, Int.reduceToNat, Int.reduceLE, Int.reduceLT, Int.reduceAdd, Int.reduceSub, Int.reduceNeg, Int.reduceBEq, Int.reduceBNe, Nat.reduceBNe, Nat.reduceDiv, Nat.reduceMod, Go.undef])) | (refine And.intro (by first | assumption | omega) ?_; try simp only [go_sem, Nat.reduceAdd, Nat.reduceSub, Nat.reduceMul, Nat.reduceBEq, Nat.reduceLT, Nat.reduceLeDiff, Nat.reduceEqDiff, Int.reduceToNat, Int.reduceLE, Int.reduceLT, Int.reduceAdd, Int.reduceSub, Int.reduceNeg, Int.reduceBEq, Int.reduceBNe, Nat.reduceBNe, Nat.reduceDiv, Nat.reduceMod, Go.undef]) | (refine kont_callR0 hb fn106 rfl ?_ (hcf) rfl ?_; (· simp only [go_sem, Nat.reduceAdd, Nat.reduceSub, Nat.reduceMul, Nat.reduceBEq, Nat.reduceLT, Nat.reduceLeDiff, Nat.reduceEqDiff, Int.reduceToNat, Int.reduceLE, Int.reduceLT, Int.reduceAdd, Int.reduceSub, Int.reduceNeg, Int.reduceBEq, Int.reduceBNe, Nat.reduceBNe, Nat.reduceDiv, Nat.reduceMod, hgetA, hgetL, hgetLk, hsetA, hsetL, hsetLk, List.length_append, List.length_set, List.append_assoc, List.set_set, Go.undef]); intro d hR; subst hR; refine kont_of_hx cx_ok hb 200 ?_; simp only [go_sem, Nat.reduceAdd, Nat.reduceSub, Nat.reduceMul, Nat.reduceBEq, Nat.reduceLT, Nat.reduceLeDiff, Nat.reduceEqDiff, Int.reduceToNat, Int.reduceLE, Int.reduceLT, Int.reduceAdd, Int.reduceSub, Int.reduceNeg, Int.reduceBEq, Int.reduceBNe, Nat.reduceBNe, Nat.reduceDiv, Nat.reduceMod, hgetA, hgetL, hgetLk, hsetA, hsetL, hsetLk, List.length_append, List.length_set, List.append_assoc, List.set_set, Go.undef]) | fail)
  all_goals (congr 2; unfold mayE; simp_all; try omega)
end Go.Fg.X
