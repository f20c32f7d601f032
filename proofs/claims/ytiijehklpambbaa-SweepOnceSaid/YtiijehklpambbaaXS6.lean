/- Walks of the functions that the statement reaches. No conditions: contracts and laws. -/
import Derived.Test.YtiijehklpambbaaXS5
namespace Go.Fg.X
open Go.Proofs Go.Fg
set_option maxRecDepth 100000
set_option maxHeartbeats 4000000
set_option linter.unusedSimpArgs false
set_option linter.unusedVariables false
structure Rp where
  out : List Int
  nx : Nat
def rpStep (l : List Opn) (k : Nat) (s : Rp) : Rp :=
  if rkept l k = false then ⟨s.out ++ [-1], s.nx⟩
  else if rjoined l k = true then ⟨s.out ++ [(s.nx : Int) - 1], s.nx⟩ else ⟨s.out ++ [((s.nx + 1 : Nat) : Int) - 1], s.nx + 1⟩
def rpAt (l : List Opn) : Nat → Rp
  | 0 => ⟨[], 0⟩
  | k + 1 => rpStep l k (rpAt l k)
theorem rpAt_len (l : List Opn) : ∀ k, (rpAt l k).out.length = k ∧ (rpAt l k).nx ≤ k
  | 0 => ⟨rfl, Nat.le_refl _⟩
  | k + 1 => by
    have := rpAt_len l k
    simp only [rpAt, rpStep]
    split
    · simp; omega
    · split
      · simp; omega
      · simp; omega
theorem rplaces_ok (x : Scr) (h : Small x) : AFn Try.prog 28 [.agg x.cells] (Ret (ints (rpAt x.ops x.ops.length).out)) := by
  refine AFn_hxk 0 cx_ok 200 Try.func28 rfl Try.ntmps28 Try.results28 rfl fun base w hb => ?_
  simp only [go_sem, Nat.reduceAdd, Nat.reduceSub, Nat.reduceMul, Nat.reduceBEq, Nat.reduceLT, Nat.reduceLeDiff, Nat.reduceEqDiff, Int.reduceToNat, Int.reduceLE, Int.reduceLT, Int.reduceAdd, Int.reduceSub, Int.reduceNeg, Int.reduceBEq, Int.reduceBNe, Nat.reduceBNe, Nat.reduceDiv, Nat.reduceMod]
  refine kont_weak_code (Weak.phantom 3 1 (rowsI .i64 []) rfl) ?_
  simp only [go_sem, Nat.reduceAdd, Nat.reduceSub, Nat.reduceMul, Nat.reduceBEq, Nat.reduceLT, Nat.reduceLeDiff, Nat.reduceEqDiff, Int.reduceToNat, Int.reduceLE, Int.reduceLT, Int.reduceAdd, Int.reduceSub, Int.reduceNeg, Int.reduceBEq, Int.reduceBNe, Nat.reduceBNe, Nat.reduceDiv, Nat.reduceMod]
  refine kont_forF (G := Nat) [1, 7, 8] (fun k => True) (fun k γ => [(3, .ref 1 k 0 (rpAt x.ops k).out.length), (4, dint (rpAt x.ops k).nx), (9, dint k)]) (fun k γ => [⟨.one, 0, 3, 1, fun _ => x.cells⟩, ⟨.arr, k, 1, (rpAt x.ops k).out.length, rowsI .i64 (rpAt x.ops k).out⟩]) (x.ops.length) (0) rfl (Weak.to 2 (by (simp only [go_sem, Nat.reduceAdd, Nat.reduceSub, Nat.reduceMul, Nat.reduceBEq, Nat.reduceLT, Nat.reduceLeDiff, Nat.reduceEqDiff, Int.reduceToNat, Int.reduceLE, Int.reduceLT, Int.reduceAdd, Int.reduceSub, Int.reduceNeg, Int.reduceBEq, Int.reduceBNe, Nat.reduceBNe, Nat.reduceDiv, Nat.reduceMod, rpAt]) <;> simp)) trivial ?_
  intro k γ hk _
  refine kont_of_hx cx_ok hb 200 ?_
  simp only [go_sem, Nat.reduceAdd, Nat.reduceSub, Nat.reduceMul, Nat.reduceBEq, Nat.reduceLT, Nat.reduceLeDiff, Nat.reduceEqDiff, Int.reduceToNat, Int.reduceLE, Int.reduceLT, Int.reduceAdd, Int.reduceSub, Int.reduceNeg, Int.reduceBEq, Int.reduceBNe, Nat.reduceBNe, Nat.reduceDiv, Nat.reduceMod]
  have h1 := h.1
  have hwr := wrap_succ (show k < 4611686018427387904 by omega)
  have hlen := rpAt_len x.ops k
  first | refine hite_lt hk (fun hk1 => ?_) (fun hk1 => ?_) | refine hite_ltI hk (fun hk1 => ?_) (fun hk1 => ?_)
  · have e5 : rpAt x.ops (k + 1) = rpStep x.ops k (rpAt x.ops k) := rfl
    generalize hse : rpAt x.ops k = s at *
    have hwn := wrap_succ (show s.nx < 4611686018427387904 by omega)
    have hwm : IntKind.i64.wrap ((s.nx : Int) - 1) = (s.nx : Int) - 1 := wrap64 (by omega) (by omega)
    have hwm' : IntKind.i64.wrap (((s.nx + 1 : Nat) : Int) - 1) = ((s.nx + 1 : Nat) : Int) - 1 := wrap64 (by omega) (by omega)
    simp only [go_sem, Nat.reduceAdd, Nat.reduceSub, Nat.reduceMul, Nat.reduceBEq, Nat.reduceLT, Nat.reduceLeDiff, Nat.reduceEqDiff, Int.reduceToNat, Int.reduceLE, Int.reduceLT, Int.reduceAdd, Int.reduceSub, Int.reduceNeg, Int.reduceBEq, Int.reduceBNe, Nat.reduceBNe, Nat.reduceDiv, Nat.reduceMod, hk1]
    refine kont_call hb fn78 rfl ?_ (rkept_ok x k h hk1) (Ret.flat rfl) rfl fun d h hR => ?_
    · simp only [go_sem, Nat.reduceAdd, Nat.reduceSub, Nat.reduceMul, Nat.reduceBEq, Nat.reduceLT, Nat.reduceLeDiff, Nat.reduceEqDiff, Int.reduceToNat, Int.reduceLE, Int.reduceLT, Int.reduceAdd, Int.reduceSub, Int.reduceNeg, Int.reduceBEq, Int.reduceBNe, Nat.reduceBNe, Nat.reduceDiv, Nat.reduceMod]
    obtain ⟨rfl, rfl⟩ := hR
    refine kont_of_hx cx_ok hb 200 ?_
    simp only [go_sem, Nat.reduceAdd, Nat.reduceSub, Nat.reduceMul, Nat.reduceBEq, Nat.reduceLT, Nat.reduceLeDiff, Nat.reduceEqDiff, Int.reduceToNat, Int.reduceLE, Int.reduceLT, Int.reduceAdd, Int.reduceSub, Int.reduceNeg, Int.reduceBEq, Int.reduceBNe, Nat.reduceBNe, Nat.reduceDiv, Nat.reduceMod]
    cases c1 : rkept x.ops k
    · rw [rpStep, if_pos c1] at e5
      simp only [go_sem, Nat.reduceAdd, Nat.reduceSub, Nat.reduceMul, Nat.reduceBEq, Nat.reduceLT, Nat.reduceLeDiff, Nat.reduceEqDiff, Int.reduceToNat, Int.reduceLE, Int.reduceLT, Int.reduceAdd, Int.reduceSub, Int.reduceNeg, Int.reduceBEq, Int.reduceBNe, Nat.reduceBNe, Nat.reduceDiv, Nat.reduceMod]
      repeat (refine And.intro (by first | assumption | omega) ?_)
      refine ⟨_, Weak.to 2 ⟨?_, ?_, ?_, ?_⟩, ForS.mk γ trivial⟩
      · simp only [go_sem, Nat.reduceAdd, Nat.reduceSub, Nat.reduceMul, Nat.reduceBEq, Nat.reduceLT, Nat.reduceLeDiff, Nat.reduceEqDiff, Int.reduceToNat, Int.reduceLE, Int.reduceLT, Int.reduceAdd, Int.reduceSub, Int.reduceNeg, Int.reduceBEq, Int.reduceBNe, Nat.reduceBNe, Nat.reduceDiv, Nat.reduceMod, hwr, e5, List.length_append]
      · simp only [go_sem, Nat.reduceAdd, Nat.reduceSub, Nat.reduceMul, Nat.reduceBEq, Nat.reduceLT, Nat.reduceLeDiff, Nat.reduceEqDiff, Int.reduceToNat, Int.reduceLE, Int.reduceLT, Int.reduceAdd, Int.reduceSub, Int.reduceNeg, Int.reduceBEq, Int.reduceBNe, Nat.reduceBNe, Nat.reduceDiv, Nat.reduceMod]
      · simp only [go_sem, Nat.reduceAdd, Nat.reduceSub, Nat.reduceMul, Nat.reduceBEq, Nat.reduceLT, Nat.reduceLeDiff, Nat.reduceEqDiff, Int.reduceToNat, Int.reduceLE, Int.reduceLT, Int.reduceAdd, Int.reduceSub, Int.reduceNeg, Int.reduceBEq, Int.reduceBNe, Nat.reduceBNe, Nat.reduceDiv, Nat.reduceMod]
      · simp only [go_sem, Nat.reduceAdd, Nat.reduceSub, Nat.reduceMul, Nat.reduceBEq, Nat.reduceLT, Nat.reduceLeDiff, Nat.reduceEqDiff, Int.reduceToNat, Int.reduceLE, Int.reduceLT, Int.reduceAdd, Int.reduceSub, Int.reduceNeg, Int.reduceBEq, Int.reduceBNe, Nat.reduceBNe, Nat.reduceDiv, Nat.reduceMod, e5, List.length_append]
        intro i hi
        rw [getD_app _ _ _ _ hi]
        cases decide (i < s.out.length) <;> rfl
    · simp only [go_sem, Nat.reduceAdd, Nat.reduceSub, Nat.reduceMul, Nat.reduceBEq, Nat.reduceLT, Nat.reduceLeDiff, Nat.reduceEqDiff, Int.reduceToNat, Int.reduceLE, Int.reduceLT, Int.reduceAdd, Int.reduceSub, Int.reduceNeg, Int.reduceBEq, Int.reduceBNe, Nat.reduceBNe, Nat.reduceDiv, Nat.reduceMod]
      refine kont_call hb fn79 rfl ?_ (rjoined_ok x k h hk1) (Ret.flat rfl) rfl fun d h hR => ?_
      · simp only [go_sem, Nat.reduceAdd, Nat.reduceSub, Nat.reduceMul, Nat.reduceBEq, Nat.reduceLT, Nat.reduceLeDiff, Nat.reduceEqDiff, Int.reduceToNat, Int.reduceLE, Int.reduceLT, Int.reduceAdd, Int.reduceSub, Int.reduceNeg, Int.reduceBEq, Int.reduceBNe, Nat.reduceBNe, Nat.reduceDiv, Nat.reduceMod]
      obtain ⟨rfl, rfl⟩ := hR
      refine kont_of_hx cx_ok hb 200 ?_
      simp only [go_sem, Nat.reduceAdd, Nat.reduceSub, Nat.reduceMul, Nat.reduceBEq, Nat.reduceLT, Nat.reduceLeDiff, Nat.reduceEqDiff, Int.reduceToNat, Int.reduceLE, Int.reduceLT, Int.reduceAdd, Int.reduceSub, Int.reduceNeg, Int.reduceBEq, Int.reduceBNe, Nat.reduceBNe, Nat.reduceDiv, Nat.reduceMod]
      cases c2 : rjoined x.ops k
      · rw [rpStep, if_neg (by rw [c1]; simp), if_neg (by rw [c2]; simp)] at e5
        simp only [go_sem, Nat.reduceAdd, Nat.reduceSub, Nat.reduceMul, Nat.reduceBEq, Nat.reduceLT, Nat.reduceLeDiff, Nat.reduceEqDiff, Int.reduceToNat, Int.reduceLE, Int.reduceLT, Int.reduceAdd, Int.reduceSub, Int.reduceNeg, Int.reduceBEq, Int.reduceBNe, Nat.reduceBNe, Nat.reduceDiv, Nat.reduceMod, hwn, hwm']
        repeat (refine And.intro (by first | assumption | omega) ?_)
        refine ⟨_, Weak.to 2 ⟨?_, ?_, ?_, ?_⟩, ForS.mk γ trivial⟩
        · simp only [go_sem, Nat.reduceAdd, Nat.reduceSub, Nat.reduceMul, Nat.reduceBEq, Nat.reduceLT, Nat.reduceLeDiff, Nat.reduceEqDiff, Int.reduceToNat, Int.reduceLE, Int.reduceLT, Int.reduceAdd, Int.reduceSub, Int.reduceNeg, Int.reduceBEq, Int.reduceBNe, Nat.reduceBNe, Nat.reduceDiv, Nat.reduceMod, hwr, e5, List.length_append]
        · simp only [go_sem, Nat.reduceAdd, Nat.reduceSub, Nat.reduceMul, Nat.reduceBEq, Nat.reduceLT, Nat.reduceLeDiff, Nat.reduceEqDiff, Int.reduceToNat, Int.reduceLE, Int.reduceLT, Int.reduceAdd, Int.reduceSub, Int.reduceNeg, Int.reduceBEq, Int.reduceBNe, Nat.reduceBNe, Nat.reduceDiv, Nat.reduceMod]
        · simp only [go_sem, Nat.reduceAdd, Nat.reduceSub, Nat.reduceMul, Nat.reduceBEq, Nat.reduceLT, Nat.reduceLeDiff, Nat.reduceEqDiff, Int.reduceToNat, Int.reduceLE, Int.reduceLT, Int.reduceAdd, Int.reduceSub, Int.reduceNeg, Int.reduceBEq, Int.reduceBNe, Nat.reduceBNe, Nat.reduceDiv, Nat.reduceMod]
        · simp only [go_sem, Nat.reduceAdd, Nat.reduceSub, Nat.reduceMul, Nat.reduceBEq, Nat.reduceLT, Nat.reduceLeDiff, Nat.reduceEqDiff, Int.reduceToNat, Int.reduceLE, Int.reduceLT, Int.reduceAdd, Int.reduceSub, Int.reduceNeg, Int.reduceBEq, Int.reduceBNe, Nat.reduceBNe, Nat.reduceDiv, Nat.reduceMod, e5, List.length_append]
          intro i hi
          rw [getD_app _ _ _ _ hi]
          cases decide (i < s.out.length) <;> rfl
      · rw [rpStep, if_neg (by rw [c1]; simp), if_pos c2] at e5
        simp only [go_sem, Nat.reduceAdd, Nat.reduceSub, Nat.reduceMul, Nat.reduceBEq, Nat.reduceLT, Nat.reduceLeDiff, Nat.reduceEqDiff, Int.reduceToNat, Int.reduceLE, Int.reduceLT, Int.reduceAdd, Int.reduceSub, Int.reduceNeg, Int.reduceBEq, Int.reduceBNe, Nat.reduceBNe, Nat.reduceDiv, Nat.reduceMod, hwn, hwm]
        repeat (refine And.intro (by first | assumption | omega) ?_)
        refine ⟨_, Weak.to 2 ⟨?_, ?_, ?_, ?_⟩, ForS.mk γ trivial⟩
        · simp only [go_sem, Nat.reduceAdd, Nat.reduceSub, Nat.reduceMul, Nat.reduceBEq, Nat.reduceLT, Nat.reduceLeDiff, Nat.reduceEqDiff, Int.reduceToNat, Int.reduceLE, Int.reduceLT, Int.reduceAdd, Int.reduceSub, Int.reduceNeg, Int.reduceBEq, Int.reduceBNe, Nat.reduceBNe, Nat.reduceDiv, Nat.reduceMod, hwr, e5, List.length_append]
        · simp only [go_sem, Nat.reduceAdd, Nat.reduceSub, Nat.reduceMul, Nat.reduceBEq, Nat.reduceLT, Nat.reduceLeDiff, Nat.reduceEqDiff, Int.reduceToNat, Int.reduceLE, Int.reduceLT, Int.reduceAdd, Int.reduceSub, Int.reduceNeg, Int.reduceBEq, Int.reduceBNe, Nat.reduceBNe, Nat.reduceDiv, Nat.reduceMod]
        · simp only [go_sem, Nat.reduceAdd, Nat.reduceSub, Nat.reduceMul, Nat.reduceBEq, Nat.reduceLT, Nat.reduceLeDiff, Nat.reduceEqDiff, Int.reduceToNat, Int.reduceLE, Int.reduceLT, Int.reduceAdd, Int.reduceSub, Int.reduceNeg, Int.reduceBEq, Int.reduceBNe, Nat.reduceBNe, Nat.reduceDiv, Nat.reduceMod]
        · simp only [go_sem, Nat.reduceAdd, Nat.reduceSub, Nat.reduceMul, Nat.reduceBEq, Nat.reduceLT, Nat.reduceLeDiff, Nat.reduceEqDiff, Int.reduceToNat, Int.reduceLE, Int.reduceLT, Int.reduceAdd, Int.reduceSub, Int.reduceNeg, Int.reduceBEq, Int.reduceBNe, Nat.reduceBNe, Nat.reduceDiv, Nat.reduceMod, e5, List.length_append]
          intro i hi
          rw [getD_app _ _ _ _ hi]
          cases decide (i < s.out.length) <;> rfl
  · simp only [go_sem, Nat.reduceAdd, Nat.reduceSub, Nat.reduceMul, Nat.reduceBEq, Nat.reduceLT, Nat.reduceLeDiff, Nat.reduceEqDiff, Int.reduceToNat, Int.reduceLE, Int.reduceLT, Int.reduceAdd, Int.reduceSub, Int.reduceNeg, Int.reduceBEq, Int.reduceBNe, Nat.reduceBNe, Nat.reduceDiv, Nat.reduceMod]
    subst hk1
    refine kont_weak_code (Weak.freeze rfl 1 rfl rfl (fun i hi => by simp only [go_sem, Nat.reduceAdd, Nat.reduceSub, Nat.reduceMul, Nat.reduceBEq, Nat.reduceLT, Nat.reduceLeDiff, Nat.reduceEqDiff, Int.reduceToNat, Int.reduceLE, Int.reduceLT, Int.reduceAdd, Int.reduceSub, Int.reduceNeg, Int.reduceBEq, Int.reduceBNe, Nat.reduceBNe, Nat.reduceDiv, Nat.reduceMod])) ?_
    simp only [go_sem, Nat.reduceAdd, Nat.reduceSub, Nat.reduceMul, Nat.reduceBEq, Nat.reduceLT, Nat.reduceLeDiff, Nat.reduceEqDiff, Int.reduceToNat, Int.reduceLE, Int.reduceLT, Int.reduceAdd, Int.reduceSub, Int.reduceNeg, Int.reduceBEq, Int.reduceBNe, Nat.reduceBNe, Nat.reduceDiv, Nat.reduceMod]
    refine kont_of_hx cx_ok hb 200 ?_
    simp only [go_sem, Nat.reduceAdd, Nat.reduceSub, Nat.reduceMul, Nat.reduceBEq, Nat.reduceLT, Nat.reduceLeDiff, Nat.reduceEqDiff, Int.reduceToNat, Int.reduceLE, Int.reduceLT, Int.reduceAdd, Int.reduceSub, Int.reduceNeg, Int.reduceBEq, Int.reduceBNe, Nat.reduceBNe, Nat.reduceDiv, Nat.reduceMod]
/-! The two walks tell the same. -/
theorem plainO_kind (o : Opn) : (plainO o).kind = o.kind := by
  unfold plainO; split; simp [*]; split; simp [*]; split; simp [*]; split; simp [*]; rfl
theorem plainO_ticks (o : Opn) (h : o.kind = 4) : (plainO o).ticks = o.ticks := by
  unfold plainO; rw [if_neg (by omega), if_neg (by omega), if_neg (by omega), if_pos h]
theorem u64_range (n : Int) : 0 ≤ IntKind.u64.wrap n ∧ IntKind.u64.wrap n ≤ 18446744073709551615 := by rw [IntKind.wrap_u64]; omega
theorem rcAt_range (l : List Opn) (n : Nat) : ∀ k, 0 ≤ rcAt l n k ∧ rcAt l n k ≤ 18446744073709551615
  | 0 => by simp [rcAt]
  | k + 1 => by have := rcAt_range l n k; simp only [rcAt]; split; exact u64_range _; exact this
theorem rcAt_le (l : List Opn) (n m : Nat) : ∀ k, k ≤ n → k ≤ m → rcAt l n k = rcAt l m k
  | 0, _, _ => rfl
  | k + 1, h1, h2 => by
    have := rcAt_le l n m k (by omega) (by omega)
    simp only [rcAt]; rw [this]
    by_cases h : k < n ∧ (l.getD k default).kind = 4 ∧ (l.getD k default).ticks ≤ IntKind.u64.wrap (4611686018427387904 - rcAt l m k)
    · rw [if_pos h, if_pos ⟨by omega, h.2⟩]
    · rw [if_neg h, if_neg (fun x => h ⟨by omega, x.2⟩)]
theorem rcAt_ge (l : List Opn) (n : Nat) : ∀ d, rcAt l n (n + d) = rcAt l n n
  | 0 => rfl
  | d + 1 => by
    rw [← rcAt_ge l n d]
    show rcAt l n ((n + d) + 1) = _
    simp only [rcAt]; rw [if_neg (by omega)]
theorem rclock_eq (l : List Opn) (n : Nat) (h : n ≤ l.length) : rclock l n = rcAt l n n := by
  unfold rclock
  obtain ⟨d, hd⟩ : ∃ d, l.length = n + d := ⟨l.length - n, by omega⟩
  rw [hd, rcAt_ge]
theorem jlast_le (l : List Opn) (n m : Nat) : ∀ k, k ≤ n → k ≤ m → jlast l n k = jlast l m k
  | 0, _, _ => rfl
  | k + 1, h1, h2 => by
    have := jlast_le l n m k (by omega) (by omega)
    simp only [jlast]; rw [this]
    by_cases h : k < n ∧ rkept l k = true
    · rw [if_pos h, if_pos ⟨by omega, h.2⟩]
    · rw [if_neg h, if_neg (fun x => h ⟨by omega, x.2⟩)]
theorem jlast_ge (l : List Opn) (n : Nat) : ∀ d, jlast l n (n + d) = jlast l n n
  | 0 => rfl
  | d + 1 => by
    rw [← jlast_ge l n d]
    show jlast l n ((n + d) + 1) = _
    simp only [jlast]; rw [if_neg (by omega)]
theorem jlast_eq (l : List Opn) (n : Nat) (h : n ≤ l.length) : jlast l n l.length = jlast l n n := by
  obtain ⟨d, hd⟩ : ∃ d, l.length = n + d := ⟨l.length - n, by omega⟩
  rw [hd, jlast_ge]
def lastK (l : List Opn) : Int := if l.length = 0 then 0 else (l.getD (l.length - 1) default).kind
theorem lastK_snoc (l : List Opn) (o : Opn) : lastK (l ++ [o]) = o.kind := by
  unfold lastK; rw [if_neg (by simp)]; simp
theorem lastK_set (l : List Opn) (o : Opn) (h : 0 < l.length) : lastK (l.set (l.length - 1) o) = o.kind := by
  unfold lastK; rw [if_neg (by rw [List.length_set]; omega), List.length_set, getD_set_eq _ _ _ _ (by omega)]
/-- What one step keeps, tells and joins. -/
structure Tells (l : List Opn) (k : Nat) (s : Sw) : Prop where
  ck : s.ck = rcAt l k k
  lk : jlast l k k = lastK s.ops
  pl : rpAt l k = ⟨s.pl, s.ops.length⟩
theorem tells (l : List Opn) (hw : ∀ o ∈ l, 0 ≤ o.ticks) : ∀ k, k ≤ l.length → Tells l k (swAt (l.map plainO) k)
  | 0, _ => ⟨rfl, rfl, rfl⟩
  | k + 1, hk => by
    have T := tells l hw k (by omega)
    have hL : (l.map plainO).getD k default = plainO (l.getD k default) := getD_map _ _ _ _ _ (by omega)
    have ht : 0 ≤ (l.getD k default).ticks := hw _ (getD_mem _ _ _ (by omega))
    have hck : rcAt l (k + 1) (k + 1) = if (l.getD k default).kind = 4 ∧ (l.getD k default).ticks ≤ IntKind.u64.wrap (4611686018427387904 - rcAt l k k) then IntKind.u64.wrap (rcAt l k k + (l.getD k default).ticks) else rcAt l k k := by
      simp only [rcAt]; rw [rcAt_le l (k + 1) k k (by omega) (by omega)]; simp
    have hjl : jlast l (k + 1) (k + 1) = if rkept l k = true then (l.getD k default).kind else jlast l k k := by
      simp only [jlast]; rw [jlast_le l (k + 1) k k (by omega) (by omega)]; simp
    have hrp : rpAt l (k + 1) = rpStep l k (rpAt l k) := rfl
    have hkept : rkept l k = if (l.getD k default).kind = 4 then decide (0 < (l.getD k default).ticks) && decide ((l.getD k default).ticks ≤ IntKind.u64.wrap (4611686018427387904 - rcAt l k k)) else decide (1 ≤ (l.getD k default).kind) && decide ((l.getD k default).kind ≤ 3) := by
      unfold rkept; rw [rclock_eq l k (by omega)]
    have hjoin : rjoined l k = (decide ((l.getD k default).kind = 4) && decide (jlast l k k = 4)) := by
      unfold rjoined; rw [jlast_eq l k (by omega)]
    have hr := rcAt_range l k k
    obtain ⟨t1, t2, t3⟩ := T
    rw [t3] at hrp
    rw [t2] at hjl hjoin
    simp only [swAt, hL]
    generalize swAt (l.map plainO) k = s at *
    generalize hoe : l.getD k default = o at *
    rw [← t1] at hck hkept hr
    by_cases c1 : o.kind = 1 ∨ o.kind = 2 ∨ o.kind = 3
    · have k1 : rkept l k = true := by rw [hkept, if_neg (by omega)]; simp; omega
      have j1 : rjoined l k = false := by rw [hjoin, decide_eq_false (by omega)]; rfl
      rw [if_neg (by omega)] at hck
      rw [if_pos k1] at hjl
      rw [rpStep, if_neg (by rw [k1]; simp), if_neg (by rw [j1]; simp)] at hrp
      rw [swStep, if_pos (by rw [plainO_kind]; exact c1)]
      exact ⟨hck.symm, by rw [hjl, lastK_snoc, plainO_kind], by rw [hrp]; simp⟩
    · by_cases c4 : o.kind = 4
      · by_cases c5 : o.ticks = 0 ∨ IntKind.u64.wrap (4611686018427387904 - s.ck) < o.ticks
        · have k1 : rkept l k = false := by
            rw [hkept, if_pos c4]
            rcases c5 with c5 | c5
            · rw [decide_eq_false (by omega)]; rfl
            · rw [decide_eq_false (show ¬ o.ticks ≤ _ by omega), Bool.and_false]
          rw [if_neg (by rw [k1]; simp)] at hjl
          rw [rpStep, if_pos k1] at hrp
          rw [swStep, if_neg (by rw [plainO_kind]; omega), if_pos (by rw [plainO_kind]; exact c4), if_pos (by rw [plainO_ticks _ c4]; exact c5)]
          refine ⟨?_, by rw [hjl], hrp⟩
          rw [hck]
          rcases c5 with c5 | c5
          · split
            · rw [c5, Int.add_zero, wrapu hr.1 hr.2]
            · rfl
          · rw [if_neg (by omega)]
        · have k1 : rkept l k = true := by
            rw [hkept, if_pos c4, decide_eq_true (by omega), decide_eq_true (show o.ticks ≤ _ by omega)]; rfl
          rw [if_pos ⟨c4, by omega⟩] at hck
          rw [if_pos k1] at hjl
          rw [rpStep, if_neg (by rw [k1]; simp)] at hrp
          rw [swStep, if_neg (by rw [plainO_kind]; omega), if_pos (by rw [plainO_kind]; exact c4), if_neg (by rw [plainO_ticks _ c4]; exact c5)]
          by_cases c6 : 0 < s.ops.length ∧ (s.ops.getD (s.ops.length - 1) default).kind = 4
          · have j1 : rjoined l k = true := by
              have hlk : lastK s.ops = 4 := by unfold lastK; rw [if_neg (by omega)]; exact c6.2
              rw [hjoin, decide_eq_true c4, decide_eq_true hlk]; rfl
            rw [if_pos j1] at hrp
            rw [if_pos c6]
            refine ⟨by rw [hck, plainO_ticks _ c4], ?_, ?_⟩
            · rw [hjl, lastK_set _ _ c6.1, c4]; exact c6.2.symm
            · rw [hrp]; simp; omega
          · have j1 : rjoined l k = false := by
              have hlk : ¬ lastK s.ops = 4 := by
                unfold lastK; split
                · omega
                · exact fun x => c6 ⟨by omega, x⟩
              rw [hjoin, decide_eq_true c4, decide_eq_false hlk]; rfl
            rw [if_neg (by rw [j1]; simp)] at hrp
            rw [if_neg c6]
            exact ⟨by rw [hck, plainO_ticks _ c4], by rw [hjl, lastK_snoc, plainO_kind], by rw [hrp]; simp⟩
      · have k1 : rkept l k = false := by
          rw [hkept, if_neg c4]
          rw [Bool.eq_false_iff]; simp only [ne_eq, Bool.and_eq_true, decide_eq_true_eq]; omega
        rw [if_neg (by omega)] at hck
        rw [if_neg (by rw [k1]; simp)] at hjl
        rw [rpStep, if_pos k1] at hrp
        rw [swStep, if_neg (by rw [plainO_kind]; exact c1), if_neg (by rw [plainO_kind]; exact c4)]
        exact ⟨hck.symm, hjl, hrp⟩
end Go.Fg.X
