/- Walks of the functions that the statement reaches. No conditions: contracts and laws. -/
import Derived.Test.YtoenkapnfbcjeaaXW0
namespace Go.Fg.X
open Go.Proofs Go.Fg
set_option maxRecDepth 100000
set_option maxHeartbeats 4000000
set_option linter.unusedSimpArgs false
set_option linter.unusedVariables false
@[go_sem] def num (n : Nat) : D := .agg [u64 (n / 18446744073709551616), u64 (n % 18446744073709551616)]
theorem mul_parts (a b ah al bh bl : Nat) (ha : a = ah * 4294967296 + al) (hb : b = bh * 4294967296 + bl) (h1 : ah < 4294967296) (h2 : al < 4294967296) (h3 : bh < 4294967296) (h4 : bl < 4294967296) :
    ∃ P Q R S : Nat, P = ah * bh ∧ Q = ah * bl ∧ R = al * bh ∧ S = al * bl ∧ a * b = P * 18446744073709551616 + (Q + R) * 4294967296 + S ∧ P ≤ 18446744065119617025 ∧ Q ≤ 18446744065119617025 ∧ R ≤ 18446744065119617025 ∧ S ≤ 18446744065119617025 := by
  refine ⟨_, _, _, _, rfl, rfl, rfl, rfl, ?_, ?_, ?_, ?_, ?_⟩
  · subst ha hb
    have e : (ah * 4294967296 + al) * (bh * 4294967296 + bl) = ah * bh * (4294967296 * 4294967296) + (ah * bl + al * bh) * 4294967296 + al * bl := by
      simp only [Nat.add_mul, Nat.mul_add, Nat.mul_comm, Nat.mul_left_comm, Nat.mul_assoc]
      omega
    rw [e]
  all_goals (refine Nat.le_trans (Nat.mul_le_mul (Nat.le_sub_one_of_lt ‹_›) (Nat.le_sub_one_of_lt ‹_›)) (by decide))
theorem mul_ok (a b : Nat) (ha : a < 18446744073709551616) (hb : b < 18446744073709551616) : AFn Try.prog 71 [u64 a, u64 b] (Ret (num (a * b))) := by
  refine AFn_hxk 0 cx_ok 200 Try.func71 rfl Try.ntmps71 Try.results71 rfl fun base w hb => ?_
  simp only [go_sem, Nat.reduceAdd, Nat.reduceSub, Nat.reduceMul, Nat.reduceBEq, Nat.reduceLT, Nat.reduceLeDiff, Nat.reduceEqDiff, Int.reduceToNat, Int.reduceLE, Int.reduceLT, Int.reduceAdd, Int.reduceSub, Int.reduceNeg, Int.reduceBEq, Int.reduceBNe, Nat.reduceBNe, Nat.reduceDiv, Nat.reduceMod]
  have e32 : (2 : Nat) ^ min 32 64 = 4294967296 := rfl
  have i32 : (2 : Int) ^ min 32 64 = ((4294967296 : Nat) : Int) := rfl
  obtain ⟨P, Q, R, S, hP, hQ, hR, hS, hab, bP, bQ, bR, bS⟩ := mul_parts a b (a / 4294967296) (a % 4294967296) (b / 4294967296) (b % 4294967296) (by omega) (by omega) (by omega) (by omega) (by omega) (by omega)
  have s32 : ∀ x : Nat, ((x : Int)).fdiv ((4294967296 : Nat) : Int) = ((x / 4294967296 : Nat) : Int) := fun x => by have := shr_u x 32; rwa [show (2 : Int) ^ 32 = ((4294967296 : Nat) : Int) from rfl, show (2 : Nat) ^ 32 = 4294967296 from rfl] at this
  simp (disch := omega) only [s32, mask32, i32, wu_mul, wu_add, ← hP, ← hQ, ← hR, ← hS, hab]
  have k2 : ∀ X : Nat, X * 4294967296 % 18446744073709551616 = X % 4294967296 * 4294967296 := fun X => by omega
  rw [k2, or32 _ _ (by omega) (by omega)]
  have e1 : ((P % 18446744073709551616 + ((Q % 18446744073709551616 + S % 18446744073709551616 / 4294967296) % 18446744073709551616) / 4294967296) % 18446744073709551616 + ((R % 18446744073709551616 + ((Q % 18446744073709551616 + S % 18446744073709551616 / 4294967296) % 18446744073709551616) % 4294967296) % 18446744073709551616) / 4294967296) % 18446744073709551616 = (P * 18446744073709551616 + (Q + R) * 4294967296 + S) / 18446744073709551616 := by omega
  have e2 : ((R % 18446744073709551616 + ((Q % 18446744073709551616 + S % 18446744073709551616 / 4294967296) % 18446744073709551616) % 4294967296) % 18446744073709551616) % 4294967296 * 4294967296 + S % 18446744073709551616 % 4294967296 = (P * 18446744073709551616 + (Q + R) * 4294967296 + S) % 18446744073709551616 := by omega
  rw [e1, e2]
theorem cmp_ok (a b : Nat) (ha : a < 2 ^ 128) (hb : b < 2 ^ 128) : AFn Try.prog 73 [num a, num b] (Ret (dint (if a < b then -1 else if a = b then 0 else 1))) := by
  refine AFn_hxk 0 cx_ok 200 Try.func73 rfl Try.ntmps73 Try.results73 rfl fun base w hb => ?_
  simp only [go_sem, Nat.reduceAdd, Nat.reduceSub, Nat.reduceMul, Nat.reduceBEq, Nat.reduceLT, Nat.reduceLeDiff, Nat.reduceEqDiff, Int.reduceToNat, Int.reduceLE, Int.reduceLT, Int.reduceAdd, Int.reduceSub, Int.reduceNeg, Int.reduceBEq, Int.reduceBNe, Nat.reduceBNe, Nat.reduceDiv, Nat.reduceMod]
  refine hite_intro (fun h1 => ?_) (fun h1 => ?_)
  · simp only [go_sem, Nat.reduceAdd, Nat.reduceSub, Nat.reduceMul, Nat.reduceBEq, Nat.reduceLT, Nat.reduceLeDiff, Nat.reduceEqDiff, Int.reduceToNat, Int.reduceLE, Int.reduceLT, Int.reduceAdd, Int.reduceSub, Int.reduceNeg, Int.reduceBEq, Int.reduceBNe, Nat.reduceBNe, Nat.reduceDiv, Nat.reduceMod, h1]
    have := of_decide_eq_true h1
    rw [if_pos (by omega)]
  simp only [go_sem, Nat.reduceAdd, Nat.reduceSub, Nat.reduceMul, Nat.reduceBEq, Nat.reduceLT, Nat.reduceLeDiff, Nat.reduceEqDiff, Int.reduceToNat, Int.reduceLE, Int.reduceLT, Int.reduceAdd, Int.reduceSub, Int.reduceNeg, Int.reduceBEq, Int.reduceBNe, Nat.reduceBNe, Nat.reduceDiv, Nat.reduceMod, h1]
  have h1' := of_decide_eq_false h1
  refine hite_intro (fun h2 => ?_) (fun h2 => ?_)
  · have h2' : a / 18446744073709551616 = b / 18446744073709551616 := by have := eq_of_beq h2; omega
    simp only [go_sem, Nat.reduceAdd, Nat.reduceSub, Nat.reduceMul, Nat.reduceBEq, Nat.reduceLT, Nat.reduceLeDiff, Nat.reduceEqDiff, Int.reduceToNat, Int.reduceLE, Int.reduceLT, Int.reduceAdd, Int.reduceSub, Int.reduceNeg, Int.reduceBEq, Int.reduceBNe, Nat.reduceBNe, Nat.reduceDiv, Nat.reduceMod, h2]
    refine hite_intro (fun h3 => ?_) (fun h3 => ?_)
    · have := of_decide_eq_true h3
      simp only [go_sem, Nat.reduceAdd, Nat.reduceSub, Nat.reduceMul, Nat.reduceBEq, Nat.reduceLT, Nat.reduceLeDiff, Nat.reduceEqDiff, Int.reduceToNat, Int.reduceLE, Int.reduceLT, Int.reduceAdd, Int.reduceSub, Int.reduceNeg, Int.reduceBEq, Int.reduceBNe, Nat.reduceBNe, Nat.reduceDiv, Nat.reduceMod, h3]
      rw [if_pos (by omega)]
    · have h3' := of_decide_eq_false h3
      simp only [go_sem, Nat.reduceAdd, Nat.reduceSub, Nat.reduceMul, Nat.reduceBEq, Nat.reduceLT, Nat.reduceLeDiff, Nat.reduceEqDiff, Int.reduceToNat, Int.reduceLE, Int.reduceLT, Int.reduceAdd, Int.reduceSub, Int.reduceNeg, Int.reduceBEq, Int.reduceBNe, Nat.reduceBNe, Nat.reduceDiv, Nat.reduceMod, h3]
      refine hite_intro (fun h4 => ?_) (fun h4 => ?_)
      · simp only [go_sem, Nat.reduceAdd, Nat.reduceSub, Nat.reduceMul, Nat.reduceBEq, Nat.reduceLT, Nat.reduceLeDiff, Nat.reduceEqDiff, Int.reduceToNat, Int.reduceLE, Int.reduceLT, Int.reduceAdd, Int.reduceSub, Int.reduceNeg, Int.reduceBEq, Int.reduceBNe, Nat.reduceBNe, Nat.reduceDiv, Nat.reduceMod, h4]
        simp only [Bool.and_eq_true, beq_iff_eq] at h4
        rw [if_neg (by omega), if_pos (by omega)]
      · simp only [go_sem, Nat.reduceAdd, Nat.reduceSub, Nat.reduceMul, Nat.reduceBEq, Nat.reduceLT, Nat.reduceLeDiff, Nat.reduceEqDiff, Int.reduceToNat, Int.reduceLE, Int.reduceLT, Int.reduceAdd, Int.reduceSub, Int.reduceNeg, Int.reduceBEq, Int.reduceBNe, Nat.reduceBNe, Nat.reduceDiv, Nat.reduceMod, h4]
        simp only [Bool.and_eq_false_iff, beq_eq_false_iff_ne] at h4
        rw [if_neg (by omega), if_neg (by omega)]
  · have h2' := ne_of_beq_false h2
    simp only [go_sem, Nat.reduceAdd, Nat.reduceSub, Nat.reduceMul, Nat.reduceBEq, Nat.reduceLT, Nat.reduceLeDiff, Nat.reduceEqDiff, Int.reduceToNat, Int.reduceLE, Int.reduceLT, Int.reduceAdd, Int.reduceSub, Int.reduceNeg, Int.reduceBEq, Int.reduceBNe, Nat.reduceBNe, Nat.reduceDiv, Nat.reduceMod, h2, Bool.false_and]
    rw [if_neg (by omega), if_neg (by omega)]
theorem borrow_bits (a b c u : Nat) (ha : a < 18446744073709551616) (hb : b < 18446744073709551616) (hc : c < 2) (hl : u = (a + 18446744073709551616 - b + 18446744073709551616 - c) % 18446744073709551616) :
    (bits BinOp.or IntKind.u64 (bits BinOp.and IntKind.u64 (bits BinOp.xor IntKind.u64 (if IntKind.u64.signed = true then -1 else IntKind.u64.max) (a : Int)) (b : Int)) (bits BinOp.and IntKind.u64 (bits BinOp.xor IntKind.u64 (if IntKind.u64.signed = true then -1 else IntKind.u64.max) (bits BinOp.xor IntKind.u64 (a : Int) (b : Int))) (u : Int))).fdiv (2 ^ min 63 64) = ((if a < b + c then 1 else 0 : Nat) : Int) := by
  have em : (if IntKind.u64.signed = true then -1 else IntKind.u64.max) = ((18446744073709551615 : Nat) : Int) := by decide
  have hx : a ^^^ b < 2 ^ 64 := Nat.xor_lt_two_pow (by omega) (by omega)
  have hx1 : 18446744073709551615 ^^^ a < 2 ^ 64 := Nat.xor_lt_two_pow (by omega) (by omega)
  have hx2 : 18446744073709551615 ^^^ (a ^^^ b) < 2 ^ 64 := Nat.xor_lt_two_pow (by omega) (by omega)
  have hx3 : (18446744073709551615 ^^^ a) &&& b < 2 ^ 64 := Nat.and_lt_two_pow _ (by omega)
  have hx4 : (18446744073709551615 ^^^ (a ^^^ b)) &&& u < 2 ^ 64 := Nat.and_lt_two_pow _ (by omega)
  rw [em, u64_xor_nat a b ha hb, u64_xor_nat _ a (by decide) ha, u64_xor_nat _ _ (by decide) (by omega), u64_and_nat _ b (by omega) hb, u64_and_nat _ u (by omega) (by omega), u64_or_nat _ _ (by omega) (by omega), shr_u]
  rw [show (2 : Nat) ^ min 63 64 = 9223372036854775808 from rfl, top_or _ _ (by omega) (by omega), top_and _ _ (by omega) (by omega), top_and _ _ (by omega) (by omega), top_xor _ _ (by omega) (by omega), top_xor _ _ (by omega) (by omega), top_xor _ _ (by omega) (by omega)]
  rw [borrow_eq a b c _ _ _ u _ ha hb hc hl rfl rfl rfl rfl]
theorem sub1_ok (a b : Nat) (c : Nat) (ha : a < 18446744073709551616) (hb : b < 18446744073709551616) (hc : c < 2) : AFn Try.prog 132 [u64 a, u64 b, u64 c] (Ret (.tup [u64 ((a + 18446744073709551616 - b + 18446744073709551616 - c) % 18446744073709551616), u64 (if a < b + c then 1 else 0)])) := by
  refine AFn_hxk 0 cx_ok 200 Try.func132 rfl Try.ntmps132 Try.results132 rfl fun base w hb => ?_
  simp only [go_sem, Nat.reduceAdd, Nat.reduceSub, Nat.reduceMul, Nat.reduceBEq, Nat.reduceLT, Nat.reduceLeDiff, Nat.reduceEqDiff, Int.reduceToNat, Int.reduceLE, Int.reduceLT, Int.reduceAdd, Int.reduceSub, Int.reduceNeg, Int.reduceBEq, Int.reduceBNe, Nat.reduceBNe, Nat.reduceDiv, Nat.reduceMod]
  have h2 : IntKind.u64.wrap (IntKind.u64.wrap ((a : Int) - (b : Int)) - (c : Int)) = (((a + 18446744073709551616 - b + 18446744073709551616 - c) % 18446744073709551616 : Nat) : Int) := by
    rw [wu_sub a b (by omega), wu_sub _ c (by omega)]; omega
  rw [h2, borrow_bits a b c _ ha ‹_› hc rfl]
theorem sub_ok (a b : Nat) (ha : a < 2 ^ 128) (hb : b < 2 ^ 128) : AFn Try.prog 70 [num a, num b] (Ret (.tup [num ((a + 2 ^ 128 - b) % 2 ^ 128), dbool (decide (a < b))])) := by
  refine AFn_hxk 0 cx_ok 200 Try.func70 rfl Try.ntmps70 Try.results70 rfl fun base w hb => ?_
  simp only [go_sem, Nat.reduceAdd, Nat.reduceSub, Nat.reduceMul, Nat.reduceBEq, Nat.reduceLT, Nat.reduceLeDiff, Nat.reduceEqDiff, Int.reduceToNat, Int.reduceLE, Int.reduceLT, Int.reduceAdd, Int.reduceSub, Int.reduceNeg, Int.reduceBEq, Int.reduceBNe, Nat.reduceBNe, Nat.reduceDiv, Nat.reduceMod]
  refine kont_call hb fn132 rfl ?_ (sub1_ok (a % 18446744073709551616) (b % 18446744073709551616) 0 (by omega) (by omega) (by omega)) (Ret.flat rfl) rfl fun d h hR => ?_
  · simp only [go_sem, Nat.reduceAdd, Nat.reduceSub, Nat.reduceMul, Nat.reduceBEq, Nat.reduceLT, Nat.reduceLeDiff, Nat.reduceEqDiff, Int.reduceToNat, Int.reduceLE, Int.reduceLT, Int.reduceAdd, Int.reduceSub, Int.reduceNeg, Int.reduceBEq, Int.reduceBNe, Nat.reduceBNe, Nat.reduceDiv, Nat.reduceMod]
  obtain ⟨rfl, rfl⟩ := hR
  refine kont_of_hx cx_ok hb 200 ?_
  simp only [go_sem, Nat.reduceAdd, Nat.reduceSub, Nat.reduceMul, Nat.reduceBEq, Nat.reduceLT, Nat.reduceLeDiff, Nat.reduceEqDiff, Int.reduceToNat, Int.reduceLE, Int.reduceLT, Int.reduceAdd, Int.reduceSub, Int.reduceNeg, Int.reduceBEq, Int.reduceBNe, Nat.reduceBNe, Nat.reduceDiv, Nat.reduceMod]
  refine kont_call hb fn132 rfl ?_ (sub1_ok (a / 18446744073709551616) (b / 18446744073709551616) (if a % 18446744073709551616 < b % 18446744073709551616 + 0 then 1 else 0) (by omega) (by omega) (by split <;> omega)) (Ret.flat rfl) rfl fun d h hR => ?_
  · simp only [go_sem, Nat.reduceAdd, Nat.reduceSub, Nat.reduceMul, Nat.reduceBEq, Nat.reduceLT, Nat.reduceLeDiff, Nat.reduceEqDiff, Int.reduceToNat, Int.reduceLE, Int.reduceLT, Int.reduceAdd, Int.reduceSub, Int.reduceNeg, Int.reduceBEq, Int.reduceBNe, Nat.reduceBNe, Nat.reduceDiv, Nat.reduceMod]
  obtain ⟨rfl, rfl⟩ := hR
  refine kont_of_hx cx_ok hb 200 ?_
  simp only [go_sem, Nat.reduceAdd, Nat.reduceSub, Nat.reduceMul, Nat.reduceBEq, Nat.reduceLT, Nat.reduceLeDiff, Nat.reduceEqDiff, Int.reduceToNat, Int.reduceLE, Int.reduceLT, Int.reduceAdd, Int.reduceSub, Int.reduceNeg, Int.reduceBEq, Int.reduceBNe, Nat.reduceBNe, Nat.reduceDiv, Nat.reduceMod]
  have e1 : ∀ x : Nat, (((if x = 1 then (1 : Nat) else 0 : Nat) : Int) != 0) = decide (x = 1) := fun x => by by_cases h : x = 1 <;> simp [h]
  have e2 : (((if a / 18446744073709551616 < b / 18446744073709551616 + if a % 18446744073709551616 < b % 18446744073709551616 then 1 else 0 then 1 else 0 : Nat) : Int) != 0) = decide (a < b) := by
    by_cases h1 : a % 18446744073709551616 < b % 18446744073709551616
    · rw [if_pos h1]
      by_cases h2 : a / 18446744073709551616 < b / 18446744073709551616 + 1
      · rw [if_pos h2]; simp; omega
      · rw [if_neg h2]; simp; omega
    · rw [if_neg h1]
      by_cases h2 : a / 18446744073709551616 < b / 18446744073709551616 + 0
      · rw [if_pos h2]; simp; omega
      · rw [if_neg h2]; simp; omega
  have e3 : (a / 18446744073709551616 + 18446744073709551616 - b / 18446744073709551616 + 18446744073709551616 - if a % 18446744073709551616 < b % 18446744073709551616 then 1 else 0) % 18446744073709551616 = (a + 2 ^ 128 - b) % 2 ^ 128 / 18446744073709551616 := by
    split <;> omega
  have e4 : (a % 18446744073709551616 + 18446744073709551616 - b % 18446744073709551616 + 18446744073709551616 - 0) % 18446744073709551616 = (a + 2 ^ 128 - b) % 2 ^ 128 % 18446744073709551616 := by omega
  rw [e2, e3, e4]
theorem carry_bits (a b c u : Nat) (ha : a < 18446744073709551616) (hb : b < 18446744073709551616) (hc : c < 2) (hl : u = (a + b + c) % 18446744073709551616) :
    (bits BinOp.or IntKind.u64 (bits BinOp.and IntKind.u64 (a : Int) (b : Int)) (bits BinOp.andNot IntKind.u64 (bits BinOp.or IntKind.u64 (a : Int) (b : Int)) (u : Int))).fdiv (2 ^ min 63 64) = ((if 18446744073709551616 ≤ a + b + c then 1 else 0 : Nat) : Int) := by
  have hx : a ||| b < 2 ^ 64 := Nat.or_lt_two_pow (by omega) (by omega)
  have hx3 : a &&& b < 2 ^ 64 := Nat.and_lt_two_pow _ (by omega)
  have hx4 : (a ||| b) &&& (18446744073709551615 - u) < 2 ^ 64 := Nat.and_lt_two_pow _ (by omega)
  rw [u64_and_nat a b ha hb, u64_or_nat a b ha hb, u64_andNot_nat _ u (by omega) (by omega), u64_or_nat _ _ (by omega) (by omega), shr_u]
  rw [show (2 : Nat) ^ min 63 64 = 9223372036854775808 from rfl, top_or _ _ (by omega) (by omega), top_and _ _ (by omega) (by omega), top_and _ _ (by omega) (by omega), top_or _ _ (by omega) (by omega)]
  rw [show (18446744073709551615 - u) / 9223372036854775808 = 1 - u / 9223372036854775808 by omega]
  rw [carry_eq a b c _ _ _ u _ ha hb hc hl rfl rfl rfl rfl]
theorem add1_ok (a b : Nat) (c : Nat) (ha : a < 18446744073709551616) (hb : b < 18446744073709551616) (hc : c < 2) : AFn Try.prog 133 [u64 a, u64 b, u64 c] (Ret (.tup [u64 ((a + b + c) % 18446744073709551616), u64 (if 18446744073709551616 ≤ a + b + c then 1 else 0)])) := by
  refine AFn_hxk 0 cx_ok 200 Try.func133 rfl Try.ntmps133 Try.results133 rfl fun base w hb => ?_
  simp only [go_sem, Nat.reduceAdd, Nat.reduceSub, Nat.reduceMul, Nat.reduceBEq, Nat.reduceLT, Nat.reduceLeDiff, Nat.reduceEqDiff, Int.reduceToNat, Int.reduceLE, Int.reduceLT, Int.reduceAdd, Int.reduceSub, Int.reduceNeg, Int.reduceBEq, Int.reduceBNe, Nat.reduceBNe, Nat.reduceDiv, Nat.reduceMod]
  have h2 : IntKind.u64.wrap (IntKind.u64.wrap ((a : Int) + (b : Int)) + (c : Int)) = (((a + b + c) % 18446744073709551616 : Nat) : Int) := by
    rw [wu_add, wu_add]; omega
  rw [h2, carry_bits a b c _ ha ‹_› hc rfl]
theorem add_ok (a b : Nat) (ha : a < 2 ^ 128) (hb : b < 2 ^ 128) : AFn Try.prog 72 [num a, num b] (Ret (.tup [num ((a + b) % 2 ^ 128), dbool (decide (2 ^ 128 ≤ a + b))])) := by
  refine AFn_hxk 0 cx_ok 200 Try.func72 rfl Try.ntmps72 Try.results72 rfl fun base w hb => ?_
  simp only [go_sem, Nat.reduceAdd, Nat.reduceSub, Nat.reduceMul, Nat.reduceBEq, Nat.reduceLT, Nat.reduceLeDiff, Nat.reduceEqDiff, Int.reduceToNat, Int.reduceLE, Int.reduceLT, Int.reduceAdd, Int.reduceSub, Int.reduceNeg, Int.reduceBEq, Int.reduceBNe, Nat.reduceBNe, Nat.reduceDiv, Nat.reduceMod]
  refine kont_call hb fn133 rfl ?_ (add1_ok (a % 18446744073709551616) (b % 18446744073709551616) 0 (by omega) (by omega) (by omega)) (Ret.flat rfl) rfl fun d h hR => ?_
  · simp only [go_sem, Nat.reduceAdd, Nat.reduceSub, Nat.reduceMul, Nat.reduceBEq, Nat.reduceLT, Nat.reduceLeDiff, Nat.reduceEqDiff, Int.reduceToNat, Int.reduceLE, Int.reduceLT, Int.reduceAdd, Int.reduceSub, Int.reduceNeg, Int.reduceBEq, Int.reduceBNe, Nat.reduceBNe, Nat.reduceDiv, Nat.reduceMod]
  obtain ⟨rfl, rfl⟩ := hR
  refine kont_of_hx cx_ok hb 200 ?_
  simp only [go_sem, Nat.reduceAdd, Nat.reduceSub, Nat.reduceMul, Nat.reduceBEq, Nat.reduceLT, Nat.reduceLeDiff, Nat.reduceEqDiff, Int.reduceToNat, Int.reduceLE, Int.reduceLT, Int.reduceAdd, Int.reduceSub, Int.reduceNeg, Int.reduceBEq, Int.reduceBNe, Nat.reduceBNe, Nat.reduceDiv, Nat.reduceMod]
  refine kont_call hb fn133 rfl ?_ (add1_ok (a / 18446744073709551616) (b / 18446744073709551616) (if 18446744073709551616 ≤ a % 18446744073709551616 + b % 18446744073709551616 + 0 then 1 else 0) (by omega) (by omega) (by split <;> omega)) (Ret.flat rfl) rfl fun d h hR => ?_
  · simp only [go_sem, Nat.reduceAdd, Nat.reduceSub, Nat.reduceMul, Nat.reduceBEq, Nat.reduceLT, Nat.reduceLeDiff, Nat.reduceEqDiff, Int.reduceToNat, Int.reduceLE, Int.reduceLT, Int.reduceAdd, Int.reduceSub, Int.reduceNeg, Int.reduceBEq, Int.reduceBNe, Nat.reduceBNe, Nat.reduceDiv, Nat.reduceMod]
  obtain ⟨rfl, rfl⟩ := hR
  refine kont_of_hx cx_ok hb 200 ?_
  simp only [go_sem, Nat.reduceAdd, Nat.reduceSub, Nat.reduceMul, Nat.reduceBEq, Nat.reduceLT, Nat.reduceLeDiff, Nat.reduceEqDiff, Int.reduceToNat, Int.reduceLE, Int.reduceLT, Int.reduceAdd, Int.reduceSub, Int.reduceNeg, Int.reduceBEq, Int.reduceBNe, Nat.reduceBNe, Nat.reduceDiv, Nat.reduceMod]
  have e2 : (((if 18446744073709551616 ≤ a / 18446744073709551616 + b / 18446744073709551616 + (if 18446744073709551616 ≤ a % 18446744073709551616 + b % 18446744073709551616 then 1 else 0) then 1 else 0 : Nat) : Int) != 0) = decide (2 ^ 128 ≤ a + b) := by
    by_cases h1 : 18446744073709551616 ≤ a % 18446744073709551616 + b % 18446744073709551616
    · rw [if_pos h1]
      by_cases h2 : 18446744073709551616 ≤ a / 18446744073709551616 + b / 18446744073709551616 + 1
      · rw [if_pos h2]; simp; omega
      · rw [if_neg h2]; simp; omega
    · rw [if_neg h1]
      by_cases h2 : 18446744073709551616 ≤ a / 18446744073709551616 + b / 18446744073709551616 + 0
      · rw [if_pos h2]; simp; omega
      · rw [if_neg h2]; simp; omega
  have e3 : (a / 18446744073709551616 + b / 18446744073709551616 + if 18446744073709551616 ≤ a % 18446744073709551616 + b % 18446744073709551616 then 1 else 0) % 18446744073709551616 = (a + b) % 2 ^ 128 / 18446744073709551616 := by
    split <;> omega
  have e4 : (a % 18446744073709551616 + b % 18446744073709551616) % 18446744073709551616 = (a + b) % 2 ^ 128 % 18446744073709551616 := by omega

  rw [e2, e3, e4]
theorem of_ok (a : Nat) (ha : a < 18446744073709551616) : AFn Try.prog 135 [u64 a] (Ret (num a)) := by
  refine AFn_hxk 0 cx_ok 200 Try.func135 rfl Try.ntmps135 Try.results135 rfl fun base w hb => ?_
  simp only [go_sem, Nat.reduceAdd, Nat.reduceSub, Nat.reduceMul, Nat.reduceBEq, Nat.reduceLT, Nat.reduceLeDiff, Nat.reduceEqDiff, Int.reduceToNat, Int.reduceLE, Int.reduceLT, Int.reduceAdd, Int.reduceSub, Int.reduceNeg, Int.reduceBEq, Int.reduceBNe, Nat.reduceBNe, Nat.reduceDiv, Nat.reduceMod]
  have e1 : a / 18446744073709551616 = 0 := by omega
  have e2 : a % 18446744073709551616 = a := by omega
  rw [e1, e2]; rfl
end Go.Fg.X
