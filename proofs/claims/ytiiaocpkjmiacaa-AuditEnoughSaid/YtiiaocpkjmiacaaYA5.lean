/- Walks of the functions that the statement reaches. No conditions: contracts and laws. -/
import Derived.Test.YtiiaocpkjmiacaaYA4
namespace Go.Fg.X
open Go.Proofs Go.Fg
set_option maxRecDepth 100000
set_option maxHeartbeats 4000000
set_option linter.unusedSimpArgs false
set_option linter.unusedVariables false
def wAt (l : List Ev) : Nat → Int → List Pk
  | 0 => fun _ => []
  | i + 1 => stepW (wAt l i) (l.getD i default)
def lastE (l : List Ev) : Nat → Ev
  | 0 => zEv
  | i + 1 => l.getD i default
def doneE (l : List Ev) : Nat → Int
  | 0 => 0
  | i + 1 => if (l.getD i default).inn then doneE l i else (l.getD i default).done
def qst (x : Cf) (W : Int → List Pk) (last : Ev) (done : Int) (e : Ev) : Nat → Bool
  | 0 => decide (e.op < 0 ∨ e.op < last.op ∨ e.cls < 1)
  | 1 => decide (e.at_ < last.at_ ∨ 4611686018427387904 < e.at_)
  | 2 => pkMay e.pk x.lmax != 0
  | 3 => e.inn && (e.done != 0 || e.real)
  | 4 => !e.inn && (W e.cls).length == 0
  | 5 => !e.inn && !pkEq ((W e.cls).getD 0 default) e.pk
  | 6 => !e.inn && decide (e.at_ < done)
  | _ => !e.inn && e.done != IntKind.u64.wrap (e.at_ + tkV e.pk x.t)
def qAt (x : Cf) (l : List Ev) (i k : Nat) : Bool := qst x (wAt l i) (lastE l i) (doneE l i) (l.getD i default) k
def errK : Nat → Int
  | 0 => 1
  | 1 => 27
  | 2 => 26
  | 3 => 4
  | 4 => 6
  | 5 => 8
  | 6 => 24
  | _ => 20
theorem ro_app {h t : List Ob} {l : Nat} {o : Ob} (e : h[l]? = some o) : ((h ++ t).map Ob.ro)[l]? = some o.ro := ro_get (by rw [hgetA (hlt e)]; exact e)
theorem SlAt.ro {h t : List Ob} {d : D} {p : List Pk} (s : SlAt id h d p) : SlAt Ob.ro ((h ++ t).map Ob.ro) d p := by
  rcases s with h | ⟨lo, g, off, row, h1, h2, h3⟩
  · exact .inl h
  · exact .inr ⟨lo, g, off, row, h1, ro_app h2, h3⟩
theorem SlAt.app {h t : List Ob} {d : D} {p : List Pk} (s : SlAt id h d p) : SlAt id (h ++ t) d p := by
  rcases s with h | ⟨lo, g, off, row, h1, h2, h3⟩
  · exact .inl h
  · exact .inr ⟨lo, g, off, row, h1, by rw [hgetA (hlt h2)]; exact h2, h3⟩
structure CInv (x : Cf) (l : List Ev) (row : Nat → List D) (i : Nat) (H : List Ob) : Prop where
  f : H[1]? = some ⟨.one, 0, 2, 1, fun _ => [dint 0, dint 0]⟩
  a : H[4]? = some ⟨.one, 0, 17, 1, fun _ => aCells x 3 (lastE l i) (doneE l i) (.ref 10 0 0 8)⟩
  m : ∃ c es, H[3]? = some (mapOb .i64 c es) ∧ Waits H es (wAt l i)
  b : H[5]? = some ⟨.one, 0, 1, 1, fun _ => [.ptr 4 0 0 0]⟩
  p5 : H[6]? = some (pkBox 78 0 5)
  p6 : H[7]? = some (pkBox 79 0 5)
  p7 : H[8]? = some (pkBox 80 0 5)
  p8 : H[9]? = some (pkBox 81 1 4)
  q : H[10]? = some ⟨.arr, 0, 2, 8, row⟩
theorem CInv.app {x : Cf} {l : List Ev} {row : Nat → List D} {i : Nat} {H t : List Ob} (I : CInv x l row i H) : CInv x l row i (H ++ t) := by
  have up : ∀ {l : Nat} {o : Ob}, H[l]? = some o → (H ++ t)[l]? = some o := fun e => by rw [hgetA (hlt e)]; exact e
  obtain ⟨c, es, h1, h2⟩ := I.m
  exact ⟨up I.f, up I.a, ⟨c, es, up h1, fun k => (h2.at_ k).app, h2.sep⟩, up I.b, up I.p5, up I.p6, up I.p7, up I.p8, up I.q⟩
def Clean (x : Cf) (l : List Ev) (i : Nat) : Prop := ∀ j, j < i → ∀ k, k < 8 → qAt x l j k = false
def CheckR (x : Cf) (l : List Ev) (d : D) : Prop := (∃ i k, i < l.length ∧ k < 8 ∧ Clean x l i ∧ (∀ k', k' < k → qAt x l i k' = false) ∧ qAt x l i k = true ∧ d = .agg [dint i, dint (errK k)]) ∨ (Clean x l l.length ∧ d = .agg [dint 0, dint 0])
section
variable {x : Cf} {l : List Ev} {row : Nat → List D} {i : Nat} {H t : List Ob} (I : CInv x l row i H)
include I
theorem k0_ok {e : Ev} (he : e = l.getD i default) : RFn0 Try.prog 73 (H ++ t) [.agg e.cells, .ptr 5 0 0 0] (fun d => d = dbool (qAt x l i 0)) := by subst he; exact q1_ok _ 5 4 3 x _ _ _ _ (ro_app I.b) (ro_app I.a)
theorem k1_ok {e : Ev} (he : e = l.getD i default) : RFn0 Try.prog 74 (H ++ t) [.agg e.cells, .ptr 5 0 0 0] (fun d => d = dbool (qAt x l i 1)) := by subst he; exact q2_ok _ 5 4 3 x _ _ _ _ (ro_app I.b) (ro_app I.a)
theorem k2_ok {e : Ev} (he : e = l.getD i default) : RFn0 Try.prog 75 (H ++ t) [.agg e.cells, .ptr 5 0 0 0] (fun d => d = dbool (qAt x l i 2)) := by subst he; exact q3_ok _ 5 4 3 x _ _ _ _ (ro_app I.b) (ro_app I.a)
omit I in
theorem k3_ok {e : Ev} (he : e = l.getD i default) : RFn0 Try.prog 77 (H ++ t) [.agg e.cells] (fun d => d = dbool (qAt x l i 3)) := by subst he; exact q4_ok _ _
theorem k4_ok {e : Ev} (he : e = l.getD i default) : RFn0 Try.prog 72 (H ++ t) [.agg e.cells, .ptr 6 0 0 0] (fun d => d = dbool (qAt x l i 4)) := by
  subst he
  obtain ⟨c, es, hm, hW⟩ := I.m
  exact pick0_ok _ 6 _ 78 5 _ fn78 (ro_app I.p5) fun _ h' up => q5_ok h' 5 4 3 x _ _ _ _ (up _ _ (ro_app I.b)) (up _ _ (ro_app I.a)) (up _ _ (ro_app hm)) (p := wAt l i (l.getD i default).cls) (by
    rcases (hW.at_ (l.getD i default).cls).ro (t := t) with h | ⟨lo, g, off, row, h1, h2, h3⟩
    · exact .inl h
    · exact .inr ⟨lo, g, off, row, h1, up _ _ h2, h3⟩)
theorem k5_ok {e : Ev} (he : e = l.getD i default) (hq : qAt x l i 4 = false) : RFn0 Try.prog 72 (H ++ t) [.agg e.cells, .ptr 7 0 0 0] (fun d => d = dbool (qAt x l i 5)) := by
  subst he
  obtain ⟨c, es, hm, hW⟩ := I.m
  exact pick0_ok _ 7 _ 79 5 _ fn79 (ro_app I.p6) fun hin h' up => q6_ok h' 5 4 3 x _ _ _ _ (up _ _ (ro_app I.b)) (up _ _ (ro_app I.a)) (up _ _ (ro_app hm)) (p := wAt l i (l.getD i default).cls) (by
    rcases (hW.at_ (l.getD i default).cls).ro (t := t) with h | ⟨lo, g, off, row, h1, h2, h3⟩
    · exact .inl h
    · exact .inr ⟨lo, g, off, row, h1, up _ _ h2, h3⟩) (fun h => by
      simp only [qAt, qst, hin, h] at hq
      simp at hq)
theorem k6_ok {e : Ev} (he : e = l.getD i default) : RFn0 Try.prog 72 (H ++ t) [.agg e.cells, .ptr 8 0 0 0] (fun d => d = dbool (qAt x l i 6)) := by
  subst he
  exact pick0_ok _ 8 _ 80 5 _ fn80 (ro_app I.p7) fun _ h' up => q7_ok h' 5 4 3 x _ _ _ _ (up _ _ (ro_app I.b)) (up _ _ (ro_app I.a))
theorem k7_ok {e : Ev} (he : e = l.getD i default) : RFn0 Try.prog 72 (H ++ t) [.agg e.cells, .ptr 9 0 0 0] (fun d => d = dbool (qAt x l i 7)) := by
  subst he
  exact pick1_ok _ 9 _ 81 4 _ fn81 (ro_app I.p8) fun _ h' up => q8_ok h' 4 3 x _ _ _ _ (up _ _ (ro_app I.a))
end
theorem wAt_len (l : List Ev) : ∀ (i : Nat) (k : Int), (wAt l i k).length ≤ i
  | 0, _ => Nat.le_refl _
  | i + 1, k => by
    have := wAt_len l i k
    simp only [wAt, stepW]
    split
    · split
      · simp; omega
      · simp; omega
    · omega
theorem check_ok (x : Cf) (l : List Ev) (hl : l.length < 1000000) : AFn Try.prog 12 [.agg x.cells, evs l] (fun d h => h = [] ∧ if 1 ≤ x.t ∧ x.t ≤ 65536 ∧ 1 ≤ x.lmax ∧ x.lmax ≤ 16384 then CheckR x l d else d = .agg [dint 0, dint 7]) := by
  refine AFn_hxk 0 cx_ok 200 Try.func12 rfl Try.ntmps12 Try.results12 rfl fun base w hb => ?_
  simp only [go_sem, Nat.reduceAdd, Nat.reduceSub, Nat.reduceMul, Nat.reduceBEq, Nat.reduceLT, Nat.reduceLeDiff, Nat.reduceEqDiff, Int.reduceToNat, Int.reduceLE, Int.reduceLT, Int.reduceAdd, Int.reduceSub, Int.reduceNeg, Int.reduceBEq, Int.reduceBNe, Nat.reduceBNe, Nat.reduceDiv, Nat.reduceMod]
  by_cases hx : 1 ≤ x.t ∧ x.t ≤ 65536 ∧ 1 ≤ x.lmax ∧ x.lmax ≤ 16384
  · obtain ⟨h1, h2, h3, h4⟩ := id hx
    simp only [if_pos hx]
    simp only [go_sem, Nat.reduceAdd, Nat.reduceSub, Nat.reduceMul, Nat.reduceBEq, Nat.reduceLT, Nat.reduceLeDiff, Nat.reduceEqDiff, Int.reduceToNat, Int.reduceLE, Int.reduceLT, Int.reduceAdd, Int.reduceSub, Int.reduceNeg, Int.reduceBEq, Int.reduceBNe, Nat.reduceBNe, Nat.reduceDiv, Nat.reduceMod, decide_eq_false (show ¬ x.t < 1 by omega), decide_eq_false (show ¬ (65536 : Int) < x.t by omega), decide_eq_false (show ¬ x.lmax < 1 by omega), decide_eq_false (show ¬ (16384 : Int) < x.lmax by omega)]
    refine kont_callH hb fn38 rfl ?_ (newAuditor_ok _ x) rfl fun d h hR => ?_
    · simp only [go_sem, Nat.reduceAdd, Nat.reduceSub, Nat.reduceMul, Nat.reduceBEq, Nat.reduceLT, Nat.reduceLeDiff, Nat.reduceEqDiff, Int.reduceToNat, Int.reduceLE, Int.reduceLT, Int.reduceAdd, Int.reduceSub, Int.reduceNeg, Int.reduceBEq, Int.reduceBNe, Nat.reduceBNe, Nat.reduceDiv, Nat.reduceMod, hgetA, hgetL, hgetLk, hsetA, hsetL, hsetLk, List.length_append, List.length_set, List.append_assoc, List.set_set]
    obtain ⟨rfl, g, row, rfl, N⟩ := hR
    refine kont_of_hx cx_ok hb 200 ?_
    simp only [go_sem, Nat.reduceAdd, Nat.reduceSub, Nat.reduceMul, Nat.reduceBEq, Nat.reduceLT, Nat.reduceLeDiff, Nat.reduceEqDiff, Int.reduceToNat, Int.reduceLE, Int.reduceLT, Int.reduceAdd, Int.reduceSub, Int.reduceNeg, Int.reduceBEq, Int.reduceBNe, Nat.reduceBNe, Nat.reduceDiv, Nat.reduceMod, hgetA, hgetL, hgetLk, hsetA, hsetL, hsetLk, List.length_append, List.length_set, List.append_assoc, List.set_set]
    have I0 : CInv x l row 0 (⟨.one, 0, 2, 1, fun _ => x.cells⟩ :: ⟨.one, 0, 2, 1, fun _ => [dint 0, dint 0]⟩ :: g) := by
      have hg := N.g
      subst hg
      exact ⟨rfl, rfl, ⟨0, [], rfl, ⟨fun k => .inl ⟨rfl, rfl⟩, fun k k' lo g off n g' off' n' h => by cases h⟩⟩, rfl, rfl, rfl, rfl, rfl, rfl⟩
    refine kont_for (fun i s => ∃ H, CInv x l row i H ∧ Clean x l i ∧ s = ⟨[(4, .ptr 1 0 0 0), (5, .ptr 4 0 0 0), (31, evs l), (32, dint l.length), (33, dint i)], H⟩) l.length (Weak.frame (by simp only [go_sem, Nat.reduceAdd, Nat.reduceSub, Nat.reduceMul, Nat.reduceBEq, Nat.reduceLT, Nat.reduceLeDiff, Nat.reduceEqDiff, Int.reduceToNat, Int.reduceLE, Int.reduceLT, Int.reduceAdd, Int.reduceSub, Int.reduceNeg, Int.reduceBEq, Int.reduceBNe, Nat.reduceBNe, Nat.reduceDiv, Nat.reduceMod])) ⟨_, I0, fun j hj => absurd hj (Nat.not_lt_zero j), rfl⟩ ?_
    have r0 := N.r0
    have r1 := N.r1
    have r2 := N.r2
    have r3 := N.r3
    have r4 := N.r4
    have r5 := N.r5
    have r6 := N.r6
    have r7 := N.r7
    simp only [go_sem, Nat.reduceAdd, Nat.reduceSub, Nat.reduceMul, Nat.reduceBEq, Nat.reduceLT, Nat.reduceLeDiff, Nat.reduceEqDiff, Int.reduceToNat, Int.reduceLE, Int.reduceLT, Int.reduceAdd, Int.reduceSub, Int.reduceNeg, Int.reduceBEq, Int.reduceBNe, Nat.reduceBNe, Nat.reduceDiv, Nat.reduceMod, pkClo] at r0 r1 r2 r3 r4 r5 r6 r7
    clear I0 N g
    rintro i s hi ⟨H, I, hcl, rfl⟩
    refine kont_of_hx cx_ok hb 200 ?_
    simp only [go_sem, Nat.reduceAdd, Nat.reduceSub, Nat.reduceMul, Nat.reduceBEq, Nat.reduceLT, Nat.reduceLeDiff, Nat.reduceEqDiff, Int.reduceToNat, Int.reduceLE, Int.reduceLT, Int.reduceAdd, Int.reduceSub, Int.reduceNeg, Int.reduceBEq, Int.reduceBNe, Nat.reduceBNe, Nat.reduceDiv, Nat.reduceMod, hgetA, hgetL, hgetLk, hsetA, hsetL, hsetLk, List.length_append, List.length_set, List.append_assoc, List.set_set]
    first | refine hite_lt hi (fun hk1 => ?_) (fun hk1 => ?_) | refine hite_ltI hi (fun hk1 => ?_) (fun hk1 => ?_)
    · obtain ⟨e, he⟩ : ∃ e, e = l.getD i default := ⟨_, rfl⟩
      have a_l := hlt I.a
      simp only [go_sem, Nat.reduceAdd, Nat.reduceSub, Nat.reduceMul, Nat.reduceBEq, Nat.reduceLT, Nat.reduceLeDiff, Nat.reduceEqDiff, Int.reduceToNat, Int.reduceLE, Int.reduceLT, Int.reduceAdd, Int.reduceSub, Int.reduceNeg, Int.reduceBEq, Int.reduceBNe, Nat.reduceBNe, Nat.reduceDiv, Nat.reduceMod, hgetA, hgetL, hgetLk, hsetA, hsetL, hsetLk, List.length_append, List.length_set, List.append_assoc, List.set_set, hk1, ← he, I.a, I.q, a_l]
      obtain ⟨n, hn⟩ : ∃ n, n = H.length := ⟨_, rfl⟩
      rw [← hn]
      refine kont_for (fun k s => ∃ H' : List Ob, CInv x l row i H' ∧ H'[n]? = some ⟨.one, 0, 12, 1, fun _ => e.cells⟩ ∧ (∀ k', k' < k → qAt x l i k' = false) ∧ s = ⟨[(4, .ptr 1 0 0 0), (5, .ptr 4 0 0 0), (31, evs l), (32, dint l.length), (33, dint i), (6, dint i), (7, .ptr n 0 0 0), (41, .ref 10 0 0 8), (42, dint 8), (43, dint k)], H'⟩) 8 (Weak.frame (by simp only [go_sem, Nat.reduceAdd, Nat.reduceSub, Nat.reduceMul, Nat.reduceBEq, Nat.reduceLT, Nat.reduceLeDiff, Nat.reduceEqDiff, Int.reduceToNat, Int.reduceLE, Int.reduceLT, Int.reduceAdd, Int.reduceSub, Int.reduceNeg, Int.reduceBEq, Int.reduceBNe, Nat.reduceBNe, Nat.reduceDiv, Nat.reduceMod])) ⟨_, I.app, by rw [hgetL hn.symm]; rfl, fun k' h => absurd h (Nat.not_lt_zero k'), rfl⟩ ?_
      clear I a_l hn H
      rintro k s hk ⟨H, I, hen, hno, rfl⟩
      have a_l := hlt I.a
      have f_l := hlt I.f
      have q_l := hlt I.q
      have n_l := hlt hen
      refine kont_of_hx cx_ok hb 200 ?_
      simp only [go_sem, Nat.reduceAdd, Nat.reduceSub, Nat.reduceMul, Nat.reduceBEq, Nat.reduceLT, Nat.reduceLeDiff, Nat.reduceEqDiff, Int.reduceToNat, Int.reduceLE, Int.reduceLT, Int.reduceAdd, Int.reduceSub, Int.reduceNeg, Int.reduceBEq, Int.reduceBNe, Nat.reduceBNe, Nat.reduceDiv, Nat.reduceMod, hgetA, hgetL, hgetLk, hsetA, hsetL, hsetLk, List.length_append, List.length_set, List.append_assoc, List.set_set]
      by_cases hk8 : k < 8
      · have hk9 : ((k : Int) < 8) := by omega
        simp only [go_sem, Nat.reduceAdd, Nat.reduceSub, Nat.reduceMul, Nat.reduceBEq, Nat.reduceLT, Nat.reduceLeDiff, Nat.reduceEqDiff, Int.reduceToNat, Int.reduceLE, Int.reduceLT, Int.reduceAdd, Int.reduceSub, Int.reduceNeg, Int.reduceBEq, Int.reduceBNe, Nat.reduceBNe, Nat.reduceDiv, Nat.reduceMod, hgetA, hgetL, hgetLk, hsetA, hsetL, hsetLk, List.length_append, List.length_set, List.append_assoc, List.set_set, hk9]
        have found : qAt x l i k = true → CheckR x l (.agg [dint i, dint (errK k)]) := fun h => .inl ⟨i, k, hk1, hk8, hcl, hno, h, rfl⟩
        have goon : qAt x l i k = false → ∀ k', k' < k + 1 → qAt x l i k' = false := fun h k' hk' => by
          rcases Nat.lt_succ_iff_lt_or_eq.1 hk' with h1 | rfl
          · exact hno k' h1
          · exact h
        rcases (show k = 0 ∨ k = 1 ∨ k = 2 ∨ k = 3 ∨ k = 4 ∨ k = 5 ∨ k = 6 ∨ k = 7 by omega) with rfl | rfl | rfl | rfl | rfl | rfl | rfl | rfl
        · simp only [go_sem, Nat.reduceAdd, Nat.reduceSub, Nat.reduceMul, Nat.reduceBEq, Nat.reduceLT, Nat.reduceLeDiff, Nat.reduceEqDiff, Int.reduceToNat, Int.reduceLE, Int.reduceLT, Int.reduceAdd, Int.reduceSub, Int.reduceNeg, Int.reduceBEq, Int.reduceBNe, Nat.reduceBNe, Nat.reduceDiv, Nat.reduceMod, hgetA, hgetL, hgetLk, hsetA, hsetL, hsetLk, List.length_append, List.length_set, List.append_assoc, List.set_set, I.q, q_l, r0, hen, n_l]
          refine kont_callR0 hb fn73 rfl ?_ (k0_ok I he) rfl fun d hR => ?_
          · simp only [go_sem, Nat.reduceAdd, Nat.reduceSub, Nat.reduceMul, Nat.reduceBEq, Nat.reduceLT, Nat.reduceLeDiff, Nat.reduceEqDiff, Int.reduceToNat, Int.reduceLE, Int.reduceLT, Int.reduceAdd, Int.reduceSub, Int.reduceNeg, Int.reduceBEq, Int.reduceBNe, Nat.reduceBNe, Nat.reduceDiv, Nat.reduceMod, hgetA, hgetL, hgetLk, hsetA, hsetL, hsetLk, List.length_append, List.length_set, List.append_assoc, List.set_set]
          subst hR
          refine kont_of_hx cx_ok hb 200 ?_
          simp only [go_sem, Nat.reduceAdd, Nat.reduceSub, Nat.reduceMul, Nat.reduceBEq, Nat.reduceLT, Nat.reduceLeDiff, Nat.reduceEqDiff, Int.reduceToNat, Int.reduceLE, Int.reduceLT, Int.reduceAdd, Int.reduceSub, Int.reduceNeg, Int.reduceBEq, Int.reduceBNe, Nat.reduceBNe, Nat.reduceDiv, Nat.reduceMod, hgetA, hgetL, hgetLk, hsetA, hsetL, hsetLk, List.length_append, List.length_set, List.append_assoc, List.set_set]
          cases hq : qAt x l i 0 with
          | true =>
            simp only [go_sem, Nat.reduceAdd, Nat.reduceSub, Nat.reduceMul, Nat.reduceBEq, Nat.reduceLT, Nat.reduceLeDiff, Nat.reduceEqDiff, Int.reduceToNat, Int.reduceLE, Int.reduceLT, Int.reduceAdd, Int.reduceSub, Int.reduceNeg, Int.reduceBEq, Int.reduceBNe, Nat.reduceBNe, Nat.reduceDiv, Nat.reduceMod, hgetA, hgetL, hgetLk, hsetA, hsetL, hsetLk, List.length_append, List.length_set, List.append_assoc, List.set_set, I.f, f_l, hgetS]
            exact found hq
          | false =>
            simp only [go_sem, Nat.reduceAdd, Nat.reduceSub, Nat.reduceMul, Nat.reduceBEq, Nat.reduceLT, Nat.reduceLeDiff, Nat.reduceEqDiff, Int.reduceToNat, Int.reduceLE, Int.reduceLT, Int.reduceAdd, Int.reduceSub, Int.reduceNeg, Int.reduceBEq, Int.reduceBNe, Nat.reduceBNe, Nat.reduceDiv, Nat.reduceMod, hgetA, hgetL, hgetLk, hsetA, hsetL, hsetLk, List.length_append, List.length_set, List.append_assoc, List.set_set]
            exact ⟨_, Weak.frame (by simp only [go_sem, Nat.reduceAdd, Nat.reduceSub, Nat.reduceMul, Nat.reduceBEq, Nat.reduceLT, Nat.reduceLeDiff, Nat.reduceEqDiff, Int.reduceToNat, Int.reduceLE, Int.reduceLT, Int.reduceAdd, Int.reduceSub, Int.reduceNeg, Int.reduceBEq, Int.reduceBNe, Nat.reduceBNe, Nat.reduceDiv, Nat.reduceMod, show IntKind.i64.wrap 1 = 1 from by decide]), _, I.app, by rw [hgetA n_l]; exact hen, goon hq, rfl⟩
        · simp only [go_sem, Nat.reduceAdd, Nat.reduceSub, Nat.reduceMul, Nat.reduceBEq, Nat.reduceLT, Nat.reduceLeDiff, Nat.reduceEqDiff, Int.reduceToNat, Int.reduceLE, Int.reduceLT, Int.reduceAdd, Int.reduceSub, Int.reduceNeg, Int.reduceBEq, Int.reduceBNe, Nat.reduceBNe, Nat.reduceDiv, Nat.reduceMod, hgetA, hgetL, hgetLk, hsetA, hsetL, hsetLk, List.length_append, List.length_set, List.append_assoc, List.set_set, I.q, q_l, r1, hen, n_l]
          refine kont_callR0 hb fn74 rfl ?_ (k1_ok I he) rfl fun d hR => ?_
          · simp only [go_sem, Nat.reduceAdd, Nat.reduceSub, Nat.reduceMul, Nat.reduceBEq, Nat.reduceLT, Nat.reduceLeDiff, Nat.reduceEqDiff, Int.reduceToNat, Int.reduceLE, Int.reduceLT, Int.reduceAdd, Int.reduceSub, Int.reduceNeg, Int.reduceBEq, Int.reduceBNe, Nat.reduceBNe, Nat.reduceDiv, Nat.reduceMod, hgetA, hgetL, hgetLk, hsetA, hsetL, hsetLk, List.length_append, List.length_set, List.append_assoc, List.set_set]
          subst hR
          refine kont_of_hx cx_ok hb 200 ?_
          simp only [go_sem, Nat.reduceAdd, Nat.reduceSub, Nat.reduceMul, Nat.reduceBEq, Nat.reduceLT, Nat.reduceLeDiff, Nat.reduceEqDiff, Int.reduceToNat, Int.reduceLE, Int.reduceLT, Int.reduceAdd, Int.reduceSub, Int.reduceNeg, Int.reduceBEq, Int.reduceBNe, Nat.reduceBNe, Nat.reduceDiv, Nat.reduceMod, hgetA, hgetL, hgetLk, hsetA, hsetL, hsetLk, List.length_append, List.length_set, List.append_assoc, List.set_set]
          cases hq : qAt x l i 1 with
          | true =>
            simp only [go_sem, Nat.reduceAdd, Nat.reduceSub, Nat.reduceMul, Nat.reduceBEq, Nat.reduceLT, Nat.reduceLeDiff, Nat.reduceEqDiff, Int.reduceToNat, Int.reduceLE, Int.reduceLT, Int.reduceAdd, Int.reduceSub, Int.reduceNeg, Int.reduceBEq, Int.reduceBNe, Nat.reduceBNe, Nat.reduceDiv, Nat.reduceMod, hgetA, hgetL, hgetLk, hsetA, hsetL, hsetLk, List.length_append, List.length_set, List.append_assoc, List.set_set, I.f, f_l, hgetS]
            exact found hq
          | false =>
            simp only [go_sem, Nat.reduceAdd, Nat.reduceSub, Nat.reduceMul, Nat.reduceBEq, Nat.reduceLT, Nat.reduceLeDiff, Nat.reduceEqDiff, Int.reduceToNat, Int.reduceLE, Int.reduceLT, Int.reduceAdd, Int.reduceSub, Int.reduceNeg, Int.reduceBEq, Int.reduceBNe, Nat.reduceBNe, Nat.reduceDiv, Nat.reduceMod, hgetA, hgetL, hgetLk, hsetA, hsetL, hsetLk, List.length_append, List.length_set, List.append_assoc, List.set_set]
            exact ⟨_, Weak.frame (by simp only [go_sem, Nat.reduceAdd, Nat.reduceSub, Nat.reduceMul, Nat.reduceBEq, Nat.reduceLT, Nat.reduceLeDiff, Nat.reduceEqDiff, Int.reduceToNat, Int.reduceLE, Int.reduceLT, Int.reduceAdd, Int.reduceSub, Int.reduceNeg, Int.reduceBEq, Int.reduceBNe, Nat.reduceBNe, Nat.reduceDiv, Nat.reduceMod, show IntKind.i64.wrap 2 = 2 from by decide]), _, I.app, by rw [hgetA n_l]; exact hen, goon hq, rfl⟩
        · simp only [go_sem, Nat.reduceAdd, Nat.reduceSub, Nat.reduceMul, Nat.reduceBEq, Nat.reduceLT, Nat.reduceLeDiff, Nat.reduceEqDiff, Int.reduceToNat, Int.reduceLE, Int.reduceLT, Int.reduceAdd, Int.reduceSub, Int.reduceNeg, Int.reduceBEq, Int.reduceBNe, Nat.reduceBNe, Nat.reduceDiv, Nat.reduceMod, hgetA, hgetL, hgetLk, hsetA, hsetL, hsetLk, List.length_append, List.length_set, List.append_assoc, List.set_set, I.q, q_l, r2, hen, n_l]
          refine kont_callR0 hb fn75 rfl ?_ (k2_ok I he) rfl fun d hR => ?_
          · simp only [go_sem, Nat.reduceAdd, Nat.reduceSub, Nat.reduceMul, Nat.reduceBEq, Nat.reduceLT, Nat.reduceLeDiff, Nat.reduceEqDiff, Int.reduceToNat, Int.reduceLE, Int.reduceLT, Int.reduceAdd, Int.reduceSub, Int.reduceNeg, Int.reduceBEq, Int.reduceBNe, Nat.reduceBNe, Nat.reduceDiv, Nat.reduceMod, hgetA, hgetL, hgetLk, hsetA, hsetL, hsetLk, List.length_append, List.length_set, List.append_assoc, List.set_set]
          subst hR
          refine kont_of_hx cx_ok hb 200 ?_
          simp only [go_sem, Nat.reduceAdd, Nat.reduceSub, Nat.reduceMul, Nat.reduceBEq, Nat.reduceLT, Nat.reduceLeDiff, Nat.reduceEqDiff, Int.reduceToNat, Int.reduceLE, Int.reduceLT, Int.reduceAdd, Int.reduceSub, Int.reduceNeg, Int.reduceBEq, Int.reduceBNe, Nat.reduceBNe, Nat.reduceDiv, Nat.reduceMod, hgetA, hgetL, hgetLk, hsetA, hsetL, hsetLk, List.length_append, List.length_set, List.append_assoc, List.set_set]
          cases hq : qAt x l i 2 with
          | true =>
            simp only [go_sem, Nat.reduceAdd, Nat.reduceSub, Nat.reduceMul, Nat.reduceBEq, Nat.reduceLT, Nat.reduceLeDiff, Nat.reduceEqDiff, Int.reduceToNat, Int.reduceLE, Int.reduceLT, Int.reduceAdd, Int.reduceSub, Int.reduceNeg, Int.reduceBEq, Int.reduceBNe, Nat.reduceBNe, Nat.reduceDiv, Nat.reduceMod, hgetA, hgetL, hgetLk, hsetA, hsetL, hsetLk, List.length_append, List.length_set, List.append_assoc, List.set_set, I.f, f_l, hgetS]
            exact found hq
          | false =>
            simp only [go_sem, Nat.reduceAdd, Nat.reduceSub, Nat.reduceMul, Nat.reduceBEq, Nat.reduceLT, Nat.reduceLeDiff, Nat.reduceEqDiff, Int.reduceToNat, Int.reduceLE, Int.reduceLT, Int.reduceAdd, Int.reduceSub, Int.reduceNeg, Int.reduceBEq, Int.reduceBNe, Nat.reduceBNe, Nat.reduceDiv, Nat.reduceMod, hgetA, hgetL, hgetLk, hsetA, hsetL, hsetLk, List.length_append, List.length_set, List.append_assoc, List.set_set]
            exact ⟨_, Weak.frame (by simp only [go_sem, Nat.reduceAdd, Nat.reduceSub, Nat.reduceMul, Nat.reduceBEq, Nat.reduceLT, Nat.reduceLeDiff, Nat.reduceEqDiff, Int.reduceToNat, Int.reduceLE, Int.reduceLT, Int.reduceAdd, Int.reduceSub, Int.reduceNeg, Int.reduceBEq, Int.reduceBNe, Nat.reduceBNe, Nat.reduceDiv, Nat.reduceMod, show IntKind.i64.wrap 3 = 3 from by decide]), _, I.app, by rw [hgetA n_l]; exact hen, goon hq, rfl⟩
        · simp only [go_sem, Nat.reduceAdd, Nat.reduceSub, Nat.reduceMul, Nat.reduceBEq, Nat.reduceLT, Nat.reduceLeDiff, Nat.reduceEqDiff, Int.reduceToNat, Int.reduceLE, Int.reduceLT, Int.reduceAdd, Int.reduceSub, Int.reduceNeg, Int.reduceBEq, Int.reduceBNe, Nat.reduceBNe, Nat.reduceDiv, Nat.reduceMod, hgetA, hgetL, hgetLk, hsetA, hsetL, hsetLk, List.length_append, List.length_set, List.append_assoc, List.set_set, I.q, q_l, r3, hen, n_l]
          refine kont_callR0 hb fn77 rfl ?_ (k3_ok (x := x) he) rfl fun d hR => ?_
          · simp only [go_sem, Nat.reduceAdd, Nat.reduceSub, Nat.reduceMul, Nat.reduceBEq, Nat.reduceLT, Nat.reduceLeDiff, Nat.reduceEqDiff, Int.reduceToNat, Int.reduceLE, Int.reduceLT, Int.reduceAdd, Int.reduceSub, Int.reduceNeg, Int.reduceBEq, Int.reduceBNe, Nat.reduceBNe, Nat.reduceDiv, Nat.reduceMod, hgetA, hgetL, hgetLk, hsetA, hsetL, hsetLk, List.length_append, List.length_set, List.append_assoc, List.set_set]
          subst hR
          refine kont_of_hx cx_ok hb 200 ?_
          simp only [go_sem, Nat.reduceAdd, Nat.reduceSub, Nat.reduceMul, Nat.reduceBEq, Nat.reduceLT, Nat.reduceLeDiff, Nat.reduceEqDiff, Int.reduceToNat, Int.reduceLE, Int.reduceLT, Int.reduceAdd, Int.reduceSub, Int.reduceNeg, Int.reduceBEq, Int.reduceBNe, Nat.reduceBNe, Nat.reduceDiv, Nat.reduceMod, hgetA, hgetL, hgetLk, hsetA, hsetL, hsetLk, List.length_append, List.length_set, List.append_assoc, List.set_set]
          cases hq : qAt x l i 3 with
          | true =>
            simp only [go_sem, Nat.reduceAdd, Nat.reduceSub, Nat.reduceMul, Nat.reduceBEq, Nat.reduceLT, Nat.reduceLeDiff, Nat.reduceEqDiff, Int.reduceToNat, Int.reduceLE, Int.reduceLT, Int.reduceAdd, Int.reduceSub, Int.reduceNeg, Int.reduceBEq, Int.reduceBNe, Nat.reduceBNe, Nat.reduceDiv, Nat.reduceMod, hgetA, hgetL, hgetLk, hsetA, hsetL, hsetLk, List.length_append, List.length_set, List.append_assoc, List.set_set, I.f, f_l, hgetS]
            exact found hq
          | false =>
            simp only [go_sem, Nat.reduceAdd, Nat.reduceSub, Nat.reduceMul, Nat.reduceBEq, Nat.reduceLT, Nat.reduceLeDiff, Nat.reduceEqDiff, Int.reduceToNat, Int.reduceLE, Int.reduceLT, Int.reduceAdd, Int.reduceSub, Int.reduceNeg, Int.reduceBEq, Int.reduceBNe, Nat.reduceBNe, Nat.reduceDiv, Nat.reduceMod, hgetA, hgetL, hgetLk, hsetA, hsetL, hsetLk, List.length_append, List.length_set, List.append_assoc, List.set_set]
            exact ⟨_, Weak.frame (by simp only [go_sem, Nat.reduceAdd, Nat.reduceSub, Nat.reduceMul, Nat.reduceBEq, Nat.reduceLT, Nat.reduceLeDiff, Nat.reduceEqDiff, Int.reduceToNat, Int.reduceLE, Int.reduceLT, Int.reduceAdd, Int.reduceSub, Int.reduceNeg, Int.reduceBEq, Int.reduceBNe, Nat.reduceBNe, Nat.reduceDiv, Nat.reduceMod, show IntKind.i64.wrap 4 = 4 from by decide]), _, I.app, by rw [hgetA n_l]; exact hen, goon hq, rfl⟩
        · simp only [go_sem, Nat.reduceAdd, Nat.reduceSub, Nat.reduceMul, Nat.reduceBEq, Nat.reduceLT, Nat.reduceLeDiff, Nat.reduceEqDiff, Int.reduceToNat, Int.reduceLE, Int.reduceLT, Int.reduceAdd, Int.reduceSub, Int.reduceNeg, Int.reduceBEq, Int.reduceBNe, Nat.reduceBNe, Nat.reduceDiv, Nat.reduceMod, hgetA, hgetL, hgetLk, hsetA, hsetL, hsetLk, List.length_append, List.length_set, List.append_assoc, List.set_set, I.q, q_l, r4, hen, n_l]
          refine kont_callR0 hb fn72 rfl ?_ (k4_ok I he) rfl fun d hR => ?_
          · simp only [go_sem, Nat.reduceAdd, Nat.reduceSub, Nat.reduceMul, Nat.reduceBEq, Nat.reduceLT, Nat.reduceLeDiff, Nat.reduceEqDiff, Int.reduceToNat, Int.reduceLE, Int.reduceLT, Int.reduceAdd, Int.reduceSub, Int.reduceNeg, Int.reduceBEq, Int.reduceBNe, Nat.reduceBNe, Nat.reduceDiv, Nat.reduceMod, hgetA, hgetL, hgetLk, hsetA, hsetL, hsetLk, List.length_append, List.length_set, List.append_assoc, List.set_set]
          subst hR
          refine kont_of_hx cx_ok hb 200 ?_
          simp only [go_sem, Nat.reduceAdd, Nat.reduceSub, Nat.reduceMul, Nat.reduceBEq, Nat.reduceLT, Nat.reduceLeDiff, Nat.reduceEqDiff, Int.reduceToNat, Int.reduceLE, Int.reduceLT, Int.reduceAdd, Int.reduceSub, Int.reduceNeg, Int.reduceBEq, Int.reduceBNe, Nat.reduceBNe, Nat.reduceDiv, Nat.reduceMod, hgetA, hgetL, hgetLk, hsetA, hsetL, hsetLk, List.length_append, List.length_set, List.append_assoc, List.set_set]
          cases hq : qAt x l i 4 with
          | true =>
            simp only [go_sem, Nat.reduceAdd, Nat.reduceSub, Nat.reduceMul, Nat.reduceBEq, Nat.reduceLT, Nat.reduceLeDiff, Nat.reduceEqDiff, Int.reduceToNat, Int.reduceLE, Int.reduceLT, Int.reduceAdd, Int.reduceSub, Int.reduceNeg, Int.reduceBEq, Int.reduceBNe, Nat.reduceBNe, Nat.reduceDiv, Nat.reduceMod, hgetA, hgetL, hgetLk, hsetA, hsetL, hsetLk, List.length_append, List.length_set, List.append_assoc, List.set_set, I.f, f_l, hgetS]
            exact found hq
          | false =>
            simp only [go_sem, Nat.reduceAdd, Nat.reduceSub, Nat.reduceMul, Nat.reduceBEq, Nat.reduceLT, Nat.reduceLeDiff, Nat.reduceEqDiff, Int.reduceToNat, Int.reduceLE, Int.reduceLT, Int.reduceAdd, Int.reduceSub, Int.reduceNeg, Int.reduceBEq, Int.reduceBNe, Nat.reduceBNe, Nat.reduceDiv, Nat.reduceMod, hgetA, hgetL, hgetLk, hsetA, hsetL, hsetLk, List.length_append, List.length_set, List.append_assoc, List.set_set]
            exact ⟨_, Weak.frame (by simp only [go_sem, Nat.reduceAdd, Nat.reduceSub, Nat.reduceMul, Nat.reduceBEq, Nat.reduceLT, Nat.reduceLeDiff, Nat.reduceEqDiff, Int.reduceToNat, Int.reduceLE, Int.reduceLT, Int.reduceAdd, Int.reduceSub, Int.reduceNeg, Int.reduceBEq, Int.reduceBNe, Nat.reduceBNe, Nat.reduceDiv, Nat.reduceMod, show IntKind.i64.wrap 5 = 5 from by decide]), _, I.app, by rw [hgetA n_l]; exact hen, goon hq, rfl⟩
        · simp only [go_sem, Nat.reduceAdd, Nat.reduceSub, Nat.reduceMul, Nat.reduceBEq, Nat.reduceLT, Nat.reduceLeDiff, Nat.reduceEqDiff, Int.reduceToNat, Int.reduceLE, Int.reduceLT, Int.reduceAdd, Int.reduceSub, Int.reduceNeg, Int.reduceBEq, Int.reduceBNe, Nat.reduceBNe, Nat.reduceDiv, Nat.reduceMod, hgetA, hgetL, hgetLk, hsetA, hsetL, hsetLk, List.length_append, List.length_set, List.append_assoc, List.set_set, I.q, q_l, r5, hen, n_l]
          refine kont_callR0 hb fn72 rfl ?_ (k5_ok I he (hno 4 (by omega))) rfl fun d hR => ?_
          · simp only [go_sem, Nat.reduceAdd, Nat.reduceSub, Nat.reduceMul, Nat.reduceBEq, Nat.reduceLT, Nat.reduceLeDiff, Nat.reduceEqDiff, Int.reduceToNat, Int.reduceLE, Int.reduceLT, Int.reduceAdd, Int.reduceSub, Int.reduceNeg, Int.reduceBEq, Int.reduceBNe, Nat.reduceBNe, Nat.reduceDiv, Nat.reduceMod, hgetA, hgetL, hgetLk, hsetA, hsetL, hsetLk, List.length_append, List.length_set, List.append_assoc, List.set_set]
          subst hR
          refine kont_of_hx cx_ok hb 200 ?_
          simp only [go_sem, Nat.reduceAdd, Nat.reduceSub, Nat.reduceMul, Nat.reduceBEq, Nat.reduceLT, Nat.reduceLeDiff, Nat.reduceEqDiff, Int.reduceToNat, Int.reduceLE, Int.reduceLT, Int.reduceAdd, Int.reduceSub, Int.reduceNeg, Int.reduceBEq, Int.reduceBNe, Nat.reduceBNe, Nat.reduceDiv, Nat.reduceMod, hgetA, hgetL, hgetLk, hsetA, hsetL, hsetLk, List.length_append, List.length_set, List.append_assoc, List.set_set]
          cases hq : qAt x l i 5 with
          | true =>
            simp only [go_sem, Nat.reduceAdd, Nat.reduceSub, Nat.reduceMul, Nat.reduceBEq, Nat.reduceLT, Nat.reduceLeDiff, Nat.reduceEqDiff, Int.reduceToNat, Int.reduceLE, Int.reduceLT, Int.reduceAdd, Int.reduceSub, Int.reduceNeg, Int.reduceBEq, Int.reduceBNe, Nat.reduceBNe, Nat.reduceDiv, Nat.reduceMod, hgetA, hgetL, hgetLk, hsetA, hsetL, hsetLk, List.length_append, List.length_set, List.append_assoc, List.set_set, I.f, f_l, hgetS]
            exact found hq
          | false =>
            simp only [go_sem, Nat.reduceAdd, Nat.reduceSub, Nat.reduceMul, Nat.reduceBEq, Nat.reduceLT, Nat.reduceLeDiff, Nat.reduceEqDiff, Int.reduceToNat, Int.reduceLE, Int.reduceLT, Int.reduceAdd, Int.reduceSub, Int.reduceNeg, Int.reduceBEq, Int.reduceBNe, Nat.reduceBNe, Nat.reduceDiv, Nat.reduceMod, hgetA, hgetL, hgetLk, hsetA, hsetL, hsetLk, List.length_append, List.length_set, List.append_assoc, List.set_set]
            exact ⟨_, Weak.frame (by simp only [go_sem, Nat.reduceAdd, Nat.reduceSub, Nat.reduceMul, Nat.reduceBEq, Nat.reduceLT, Nat.reduceLeDiff, Nat.reduceEqDiff, Int.reduceToNat, Int.reduceLE, Int.reduceLT, Int.reduceAdd, Int.reduceSub, Int.reduceNeg, Int.reduceBEq, Int.reduceBNe, Nat.reduceBNe, Nat.reduceDiv, Nat.reduceMod, show IntKind.i64.wrap 6 = 6 from by decide]), _, I.app, by rw [hgetA n_l]; exact hen, goon hq, rfl⟩
        · simp only [go_sem, Nat.reduceAdd, Nat.reduceSub, Nat.reduceMul, Nat.reduceBEq, Nat.reduceLT, Nat.reduceLeDiff, Nat.reduceEqDiff, Int.reduceToNat, Int.reduceLE, Int.reduceLT, Int.reduceAdd, Int.reduceSub, Int.reduceNeg, Int.reduceBEq, Int.reduceBNe, Nat.reduceBNe, Nat.reduceDiv, Nat.reduceMod, hgetA, hgetL, hgetLk, hsetA, hsetL, hsetLk, List.length_append, List.length_set, List.append_assoc, List.set_set, I.q, q_l, r6, hen, n_l]
          refine kont_callR0 hb fn72 rfl ?_ (k6_ok I he) rfl fun d hR => ?_
          · simp only [go_sem, Nat.reduceAdd, Nat.reduceSub, Nat.reduceMul, Nat.reduceBEq, Nat.reduceLT, Nat.reduceLeDiff, Nat.reduceEqDiff, Int.reduceToNat, Int.reduceLE, Int.reduceLT, Int.reduceAdd, Int.reduceSub, Int.reduceNeg, Int.reduceBEq, Int.reduceBNe, Nat.reduceBNe, Nat.reduceDiv, Nat.reduceMod, hgetA, hgetL, hgetLk, hsetA, hsetL, hsetLk, List.length_append, List.length_set, List.append_assoc, List.set_set]
          subst hR
          refine kont_of_hx cx_ok hb 200 ?_
          simp only [go_sem, Nat.reduceAdd, Nat.reduceSub, Nat.reduceMul, Nat.reduceBEq, Nat.reduceLT, Nat.reduceLeDiff, Nat.reduceEqDiff, Int.reduceToNat, Int.reduceLE, Int.reduceLT, Int.reduceAdd, Int.reduceSub, Int.reduceNeg, Int.reduceBEq, Int.reduceBNe, Nat.reduceBNe, Nat.reduceDiv, Nat.reduceMod, hgetA, hgetL, hgetLk, hsetA, hsetL, hsetLk, List.length_append, List.length_set, List.append_assoc, List.set_set]
          cases hq : qAt x l i 6 with
          | true =>
            simp only [go_sem, Nat.reduceAdd, Nat.reduceSub, Nat.reduceMul, Nat.reduceBEq, Nat.reduceLT, Nat.reduceLeDiff, Nat.reduceEqDiff, Int.reduceToNat, Int.reduceLE, Int.reduceLT, Int.reduceAdd, Int.reduceSub, Int.reduceNeg, Int.reduceBEq, Int.reduceBNe, Nat.reduceBNe, Nat.reduceDiv, Nat.reduceMod, hgetA, hgetL, hgetLk, hsetA, hsetL, hsetLk, List.length_append, List.length_set, List.append_assoc, List.set_set, I.f, f_l, hgetS]
            exact found hq
          | false =>
            simp only [go_sem, Nat.reduceAdd, Nat.reduceSub, Nat.reduceMul, Nat.reduceBEq, Nat.reduceLT, Nat.reduceLeDiff, Nat.reduceEqDiff, Int.reduceToNat, Int.reduceLE, Int.reduceLT, Int.reduceAdd, Int.reduceSub, Int.reduceNeg, Int.reduceBEq, Int.reduceBNe, Nat.reduceBNe, Nat.reduceDiv, Nat.reduceMod, hgetA, hgetL, hgetLk, hsetA, hsetL, hsetLk, List.length_append, List.length_set, List.append_assoc, List.set_set]
            exact ⟨_, Weak.frame (by simp only [go_sem, Nat.reduceAdd, Nat.reduceSub, Nat.reduceMul, Nat.reduceBEq, Nat.reduceLT, Nat.reduceLeDiff, Nat.reduceEqDiff, Int.reduceToNat, Int.reduceLE, Int.reduceLT, Int.reduceAdd, Int.reduceSub, Int.reduceNeg, Int.reduceBEq, Int.reduceBNe, Nat.reduceBNe, Nat.reduceDiv, Nat.reduceMod, show IntKind.i64.wrap 7 = 7 from by decide]), _, I.app, by rw [hgetA n_l]; exact hen, goon hq, rfl⟩
        · simp only [go_sem, Nat.reduceAdd, Nat.reduceSub, Nat.reduceMul, Nat.reduceBEq, Nat.reduceLT, Nat.reduceLeDiff, Nat.reduceEqDiff, Int.reduceToNat, Int.reduceLE, Int.reduceLT, Int.reduceAdd, Int.reduceSub, Int.reduceNeg, Int.reduceBEq, Int.reduceBNe, Nat.reduceBNe, Nat.reduceDiv, Nat.reduceMod, hgetA, hgetL, hgetLk, hsetA, hsetL, hsetLk, List.length_append, List.length_set, List.append_assoc, List.set_set, I.q, q_l, r7, hen, n_l]
          refine kont_callR0 hb fn72 rfl ?_ (k7_ok I he) rfl fun d hR => ?_
          · simp only [go_sem, Nat.reduceAdd, Nat.reduceSub, Nat.reduceMul, Nat.reduceBEq, Nat.reduceLT, Nat.reduceLeDiff, Nat.reduceEqDiff, Int.reduceToNat, Int.reduceLE, Int.reduceLT, Int.reduceAdd, Int.reduceSub, Int.reduceNeg, Int.reduceBEq, Int.reduceBNe, Nat.reduceBNe, Nat.reduceDiv, Nat.reduceMod, hgetA, hgetL, hgetLk, hsetA, hsetL, hsetLk, List.length_append, List.length_set, List.append_assoc, List.set_set]
          subst hR
          refine kont_of_hx cx_ok hb 200 ?_
          simp only [go_sem, Nat.reduceAdd, Nat.reduceSub, Nat.reduceMul, Nat.reduceBEq, Nat.reduceLT, Nat.reduceLeDiff, Nat.reduceEqDiff, Int.reduceToNat, Int.reduceLE, Int.reduceLT, Int.reduceAdd, Int.reduceSub, Int.reduceNeg, Int.reduceBEq, Int.reduceBNe, Nat.reduceBNe, Nat.reduceDiv, Nat.reduceMod, hgetA, hgetL, hgetLk, hsetA, hsetL, hsetLk, List.length_append, List.length_set, List.append_assoc, List.set_set]
          cases hq : qAt x l i 7 with
          | true =>
            simp only [go_sem, Nat.reduceAdd, Nat.reduceSub, Nat.reduceMul, Nat.reduceBEq, Nat.reduceLT, Nat.reduceLeDiff, Nat.reduceEqDiff, Int.reduceToNat, Int.reduceLE, Int.reduceLT, Int.reduceAdd, Int.reduceSub, Int.reduceNeg, Int.reduceBEq, Int.reduceBNe, Nat.reduceBNe, Nat.reduceDiv, Nat.reduceMod, hgetA, hgetL, hgetLk, hsetA, hsetL, hsetLk, List.length_append, List.length_set, List.append_assoc, List.set_set, I.f, f_l, hgetS]
            exact found hq
          | false =>
            simp only [go_sem, Nat.reduceAdd, Nat.reduceSub, Nat.reduceMul, Nat.reduceBEq, Nat.reduceLT, Nat.reduceLeDiff, Nat.reduceEqDiff, Int.reduceToNat, Int.reduceLE, Int.reduceLT, Int.reduceAdd, Int.reduceSub, Int.reduceNeg, Int.reduceBEq, Int.reduceBNe, Nat.reduceBNe, Nat.reduceDiv, Nat.reduceMod, hgetA, hgetL, hgetLk, hsetA, hsetL, hsetLk, List.length_append, List.length_set, List.append_assoc, List.set_set]
            exact ⟨_, Weak.frame (by simp only [go_sem, Nat.reduceAdd, Nat.reduceSub, Nat.reduceMul, Nat.reduceBEq, Nat.reduceLT, Nat.reduceLeDiff, Nat.reduceEqDiff, Int.reduceToNat, Int.reduceLE, Int.reduceLT, Int.reduceAdd, Int.reduceSub, Int.reduceNeg, Int.reduceBEq, Int.reduceBNe, Nat.reduceBNe, Nat.reduceDiv, Nat.reduceMod, show IntKind.i64.wrap 8 = 8 from by decide]), _, I.app, by rw [hgetA n_l]; exact hen, goon hq, rfl⟩
      · obtain rfl : k = 8 := by omega
        simp only [go_sem, Nat.reduceAdd, Nat.reduceSub, Nat.reduceMul, Nat.reduceBEq, Nat.reduceLT, Nat.reduceLeDiff, Nat.reduceEqDiff, Int.reduceToNat, Int.reduceLE, Int.reduceLT, Int.reduceAdd, Int.reduceSub, Int.reduceNeg, Int.reduceBEq, Int.reduceBNe, Nat.reduceBNe, Nat.reduceDiv, Nat.reduceMod, hgetA, hgetL, hgetLk, hsetA, hsetL, hsetLk, List.length_append, List.length_set, List.append_assoc, List.set_set, hen, n_l]
        obtain ⟨c, es, hm, hW⟩ := I.m
        refine kont_of_hx cx_ok hb 200 ?_
        simp only [go_sem, Nat.reduceAdd, Nat.reduceSub, Nat.reduceMul, Nat.reduceBEq, Nat.reduceLT, Nat.reduceLeDiff, Nat.reduceEqDiff, Int.reduceToNat, Int.reduceLE, Int.reduceLT, Int.reduceAdd, Int.reduceSub, Int.reduceNeg, Int.reduceBEq, Int.reduceBNe, Nat.reduceBNe, Nat.reduceDiv, Nat.reduceMod, hgetA, hgetL, hgetLk, hsetA, hsetL, hsetLk, List.length_append, List.length_set, List.append_assoc, List.set_set, hen, n_l]
        have hne2 : e.inn = false → wAt l i e.cls ≠ [] := fun hin h => by
          have := hno 4 (by omega)
          subst he
          simp only [qAt, qst, hin, h] at this
          simp at this
        refine kont_callH hb fn39 rfl ?_ (take_ok _ 4 3 x _ _ _ e es c (wAt l i) I.a hm hW hne2 (by have := wAt_len l i e.cls; omega)) rfl fun d h hR => ?_
        · simp only [go_sem, Nat.reduceAdd, Nat.reduceSub, Nat.reduceMul, Nat.reduceBEq, Nat.reduceLT, Nat.reduceLeDiff, Nat.reduceEqDiff, Int.reduceToNat, Int.reduceLE, Int.reduceLT, Int.reduceAdd, Int.reduceSub, Int.reduceNeg, Int.reduceBEq, Int.reduceBNe, Nat.reduceBNe, Nat.reduceDiv, Nat.reduceMod, hgetA, hgetL, hgetLk, hsetA, hsetL, hsetLk, List.length_append, List.length_set, List.append_assoc, List.set_set]
        obtain ⟨Ta, Tm, Ts⟩ := hR
        refine kont_of_hx cx_ok hb 200 ?_
        simp only [go_sem, Nat.reduceAdd, Nat.reduceSub, Nat.reduceMul, Nat.reduceBEq, Nat.reduceLT, Nat.reduceLeDiff, Nat.reduceEqDiff, Int.reduceToNat, Int.reduceLE, Int.reduceLT, Int.reduceAdd, Int.reduceSub, Int.reduceNeg, Int.reduceBEq, Int.reduceBNe, Nat.reduceBNe, Nat.reduceDiv, Nat.reduceMod, hgetA, hgetL, hgetLk, hsetA, hsetL, hsetLk, List.length_append, List.length_set, List.append_assoc, List.set_set]
        obtain ⟨c', es', m1, m2⟩ := Tm
        have sm := Ts
        have I2 : CInv x l row (i + 1) h := by
          subst he
          exact ⟨sm _ _ I.f rfl (by decide) (by decide), Ta, ⟨c', es', m1, m2⟩, sm _ _ I.b rfl (by decide) (by decide), sm _ _ I.p5 rfl (by show (1 : Nat) ≠ 17; decide) (by show (1 : Nat) ≠ 6; decide), sm _ _ I.p6 rfl (by show (1 : Nat) ≠ 17; decide) (by show (1 : Nat) ≠ 6; decide), sm _ _ I.p7 rfl (by show (1 : Nat) ≠ 17; decide) (by show (1 : Nat) ≠ 6; decide), sm _ _ I.p8 rfl (by show (1 : Nat) ≠ 17; decide) (by show (1 : Nat) ≠ 6; decide), sm _ _ I.q rfl (by show (2 : Nat) ≠ 17; decide) (by show (2 : Nat) ≠ 6; decide)⟩
        refine ⟨hk1, _, Weak.frame (by simp only [go_sem, Nat.reduceAdd, Nat.reduceSub, Nat.reduceMul, Nat.reduceBEq, Nat.reduceLT, Nat.reduceLeDiff, Nat.reduceEqDiff, Int.reduceToNat, Int.reduceLE, Int.reduceLT, Int.reduceAdd, Int.reduceSub, Int.reduceNeg, Int.reduceBEq, Int.reduceBNe, Nat.reduceBNe, Nat.reduceDiv, Nat.reduceMod, wrap_succ (show i < 4611686018427387904 by omega)]), h, I2, fun j hj k hk => ?_, rfl⟩
        rcases Nat.lt_succ_iff_lt_or_eq.1 hj with h5 | rfl
        · exact hcl j h5 k hk
        · exact hno k hk
    · have hk2 : i = l.length := by omega
      subst hk2
      have f_l := hlt I.f
      simp only [go_sem, Nat.reduceAdd, Nat.reduceSub, Nat.reduceMul, Nat.reduceBEq, Nat.reduceLT, Nat.reduceLeDiff, Nat.reduceEqDiff, Int.reduceToNat, Int.reduceLE, Int.reduceLT, Int.reduceAdd, Int.reduceSub, Int.reduceNeg, Int.reduceBEq, Int.reduceBNe, Nat.reduceBNe, Nat.reduceDiv, Nat.reduceMod, hgetA, hgetL, hgetLk, hsetA, hsetL, hsetLk, List.length_append, List.length_set, List.append_assoc, List.set_set, Nat.lt_irrefl]
      refine kont_of_hx cx_ok hb 200 ?_
      simp only [go_sem, Nat.reduceAdd, Nat.reduceSub, Nat.reduceMul, Nat.reduceBEq, Nat.reduceLT, Nat.reduceLeDiff, Nat.reduceEqDiff, Int.reduceToNat, Int.reduceLE, Int.reduceLT, Int.reduceAdd, Int.reduceSub, Int.reduceNeg, Int.reduceBEq, Int.reduceBNe, Nat.reduceBNe, Nat.reduceDiv, Nat.reduceMod, hgetA, hgetL, hgetLk, hsetA, hsetL, hsetLk, List.length_append, List.length_set, List.append_assoc, List.set_set, I.f, f_l, hgetS]
      exact .inr ⟨hcl, rfl⟩
  · simp only [if_neg hx]
    repeat' (first | ((first | refine hite_dec (fun h => ?_) (fun h => ?_) | refine hite_beq (fun h => ?_) (fun h => ?_) | refine hite_bne (fun h => ?_) (fun h => ?_) | refine hite_intro (fun h => ?_) (fun h => ?_) | refine hite_decA (fun h => ?_) (fun h => ?_) | refine hite_beqA (fun h => ?_) (fun h => ?_) | refine hite_bneA (fun h => ?_) (fun h => ?_) | refine hite_intro' (fun h => ?_) (fun h => ?_)) <;> (try simp only [go_sem, Nat.reduceAdd, Nat.reduceSub, Nat.reduceMul, Nat.reduceBEq, Nat.reduceLT, Nat.reduceLeDiff, Nat.reduceEqDiff, Int.reduceToNat, Int.reduceLE, Int.reduceLT, Int.reduceAdd, Int.reduceSub, Int.reduceNeg, Int.reduceBEq, Int.reduceBNe, Nat.reduceBNe, Nat.reduceDiv, Nat.reduceMod])) | (refine And.intro (by omega) ?_; try simp only [go_sem, Nat.reduceAdd, Nat.reduceSub, Nat.reduceMul, Nat.reduceBEq, Nat.reduceLT, Nat.reduceLeDiff, Nat.reduceEqDiff, Int.reduceToNat, Int.reduceLE, Int.reduceLT, Int.reduceAdd, Int.reduceSub, Int.reduceNeg, Int.reduceBEq, Int.reduceBNe, Nat.reduceBNe, Nat.reduceDiv, Nat.reduceMod]))
    all_goals first | (exfalso; omega) | exact ⟨rfl, rfl⟩
end Go.Fg.X
