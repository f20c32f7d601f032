/- Walks of the functions that the statement reaches. No conditions: contracts and laws. -/
import Derived.Test.YtoenkapnfbcjeaaXW1
namespace Go.Fg.X
open Go.Proofs Go.Fg
set_option maxRecDepth 100000
set_option maxHeartbeats 4000000
set_option linter.unusedSimpArgs false
set_option linter.unusedVariables false
theorem or1 (x y : Nat) (hx : x < 9223372036854775808) (hy : y < 2) : bits .or .u64 ((x * 2 : Nat) : Int) (y : Int) = ((x * 2 + y : Nat) : Int) := by
  rw [u64_or_nat _ _ (by omega) (by omega), nat_join 1 _ _ (by omega) (by omega)]
theorem shr63 (x : Nat) : (x : Int).fdiv (2 ^ min 63 64) = ((x / 9223372036854775808 : Nat) : Int) := by
  have := shr_u x 63
  rwa [show (2 : Int) ^ 63 = 2 ^ min 63 64 from rfl, show (2 : Nat) ^ 63 = 9223372036854775808 from rfl] at this
theorem shl1 (x : Nat) : IntKind.u64.wrap ((x : Int) * 2 ^ min 1 64) = ((x % 9223372036854775808 * 2 : Nat) : Int) := by
  rw [show (2 : Int) ^ min 1 64 = ((2 : Nat) : Int) from rfl, wu_mul]; omega
theorem shl_r (r A : Nat) (hA : A < 2 ^ 128) : bits .or .u64 (IntKind.u64.wrap ((r : Int) * 2 ^ min 1 64)) ((A / 18446744073709551616 / 9223372036854775808 : Nat) : Int) = (((2 * r + A / 2 ^ 127) % 18446744073709551616 : Nat) : Int) := by
  rw [shl1, or1 _ _ (by omega) (by omega)]; congr 1; omega
theorem shl_hi (A : Nat) (hA : A < 2 ^ 128) : bits .or .u64 (IntKind.u64.wrap (((A / 18446744073709551616 : Nat) : Int) * 2 ^ min 1 64)) ((A % 18446744073709551616 / 9223372036854775808 : Nat) : Int) = (((A * 2 % 2 ^ 128) / 18446744073709551616 : Nat) : Int) := by
  rw [shl1, or1 _ _ (by omega) (by omega)]; congr 1; omega
theorem shl_lo (A : Nat) : IntKind.u64.wrap (((A % 18446744073709551616 : Nat) : Int) * 2 ^ min 1 64) = (((A * 2 % 2 ^ 128) % 18446744073709551616 : Nat) : Int) := by
  rw [shl1]; congr 1; omega
theorem or_one (x : Nat) : bits .or .u64 (((x * 2 % 2 ^ 128) % 18446744073709551616 : Nat) : Int) 1 = ((((x * 2 + 1) % 2 ^ 128) % 18446744073709551616 : Nat) : Int) := by
  have := or1 ((x * 2 % 2 ^ 128) % 18446744073709551616 / 2) 1 (by omega) (by omega)
  rw [show (x * 2 % 2 ^ 128) % 18446744073709551616 / 2 * 2 = (x * 2 % 2 ^ 128) % 18446744073709551616 by omega] at this
  rw [show ((1 : Nat) : Int) = 1 from rfl] at this
  rw [this]; congr 1; omega
theorem bnT {n : Nat} (h : n ≠ 0) : ((n : Int) != 0) = true := by simp [h]
theorem bnF {n : Nat} (h : n = 0) : ((n : Int) != 0) = false := by simp [h]
theorem top_step (a k : Nat) (hk : k < 128) : a / 2 ^ (128 - (k + 1)) = 2 * (a / 2 ^ (128 - k)) + (a * 2 ^ k % 2 ^ 128) / 2 ^ 127 := by
  obtain ⟨m, hm⟩ : ∃ m, m = 127 - k := ⟨_, rfl⟩
  have e1 : 128 - (k + 1) = m := by omega
  have e2 : 128 - k = m + 1 := by omega
  have e3 : (2 : Nat) ^ 128 = 2 ^ (m + 1) * 2 ^ k := by rw [← Nat.pow_add]; congr 1; omega
  have e4 : (2 : Nat) ^ 127 = 2 ^ m * 2 ^ k := by rw [← Nat.pow_add]; congr 1; omega
  rw [e1, e2, e3, e4, Nat.mul_mod_mul_right, Nat.mul_div_mul_right _ _ (Nat.two_pow_pos k), Nat.pow_succ]
  have hM := Nat.two_pow_pos m
  generalize 2 ^ m = M at *
  have h1 := Nat.div_add_mod a (M * 2)
  have h2 : a = M * (2 * (a / (M * 2))) + a % (M * 2) := by rw [← Nat.mul_assoc]; omega
  conv => lhs; rw [h2]
  rw [Nat.mul_add_div hM]
theorem shift_step (a k : Nat) : a * 2 ^ k % 2 ^ 128 * 2 % 2 ^ 128 = a * 2 ^ (k + 1) % 2 ^ 128 := by
  have : a * 2 ^ (k + 1) = a * 2 ^ k * 2 := by rw [Nat.pow_succ, Nat.mul_assoc]
  rw [this]; omega
theorem div_step (t b β : Nat) (hb : 0 < b) (hβ : β < 2) :
    (b ≤ 2 * (t % b) + β → (2 * t + β) / b = 2 * (t / b) + 1 ∧ (2 * t + β) % b = 2 * (t % b) + β - b) ∧ (2 * (t % b) + β < b → (2 * t + β) / b = 2 * (t / b) ∧ (2 * t + β) % b = 2 * (t % b) + β) := by
  have h1 := Nat.div_add_mod t b
  have h2 := Nat.mod_lt t hb
  constructor
  · intro h
    refine (Nat.div_mod_unique hb).2 ⟨?_, by omega⟩
    rw [Nat.mul_add, Nat.mul_left_comm]
    omega
  · intro h
    refine (Nat.div_mod_unique hb).2 ⟨?_, by omega⟩
    rw [Nat.mul_left_comm]
    omega
def dA (a k : Nat) : Nat := a * 2 ^ k % 2 ^ 128
def dT (a k : Nat) : Nat := a / 2 ^ (128 - k)
theorem dT_lt (a k : Nat) (h : a < 2 ^ 128) : dT a k < 2 ^ 128 := Nat.lt_of_le_of_lt (Nat.div_le_self _ _) h
theorem dA_lt (a k : Nat) : dA a k < 2 ^ 128 := Nat.mod_lt _ (by decide)
theorem div_ok (a b : Nat) (ha : a < 2 ^ 128) (hb : b < 18446744073709551616) : AFn Try.prog 134 [num a, u64 b] (Ret (.tup [num (if b = 0 then 0 else a / b), u64 (if b = 0 then 0 else a % b), dint (if b = 0 then 1 else 0)])) := by
  refine AFn_hxk 0 cx_ok 200 Try.func134 rfl Try.ntmps134 Try.results134 rfl fun base w hb => ?_
  simp only [go_sem, Nat.reduceAdd, Nat.reduceSub, Nat.reduceMul, Nat.reduceBEq, Nat.reduceLT, Nat.reduceLeDiff, Nat.reduceEqDiff, Int.reduceToNat, Int.reduceLE, Int.reduceLT, Int.reduceAdd, Int.reduceSub, Int.reduceNeg, Int.reduceBEq, Int.reduceBNe, Nat.reduceBNe, Nat.reduceDiv, Nat.reduceMod]
  by_cases hb0 : b = 0
  · subst hb0
    simp only [go_sem, Nat.reduceAdd, Nat.reduceSub, Nat.reduceMul, Nat.reduceBEq, Nat.reduceLT, Nat.reduceLeDiff, Nat.reduceEqDiff, Int.reduceToNat, Int.reduceLE, Int.reduceLT, Int.reduceAdd, Int.reduceSub, Int.reduceNeg, Int.reduceBEq, Int.reduceBNe, Nat.reduceBNe, Nat.reduceDiv, Nat.reduceMod, if_true]
    try rfl
  have hbz := bnz hb0
  simp only [go_sem, Nat.reduceAdd, Nat.reduceSub, Nat.reduceMul, Nat.reduceBEq, Nat.reduceLT, Nat.reduceLeDiff, Nat.reduceEqDiff, Int.reduceToNat, Int.reduceLE, Int.reduceLT, Int.reduceAdd, Int.reduceSub, Int.reduceNeg, Int.reduceBEq, Int.reduceBNe, Nat.reduceBNe, Nat.reduceDiv, Nat.reduceMod, hbz]
  have i1 : dA a 0 = a := by show a * 2 ^ 0 % 2 ^ 128 = a; rw [Nat.pow_zero, Nat.mul_one]; exact Nat.mod_eq_of_lt ha
  have i2 : dT a 0 = 0 := Nat.div_eq_of_lt ha
  refine kont_forF (G := Nat) [1, 2, 4, 7] (fun k => True) (fun k γ => [(8, u64 (dT a k % b)), (13, dint k)]) (fun k γ => [⟨.one, 0, 2, 1, fun _ => [u64 (dA a k / 18446744073709551616), u64 (dA a k % 18446744073709551616)]⟩, ⟨.one, 0, 2, 1, fun _ => [u64 0, u64 0]⟩, ⟨.one, 0, 2, 1, fun _ => [u64 (dT a k / b / 18446744073709551616), u64 (dT a k / b % 18446744073709551616)]⟩]) (128) (0) rfl (Weak.to 3 (by (simp only [go_sem, Nat.reduceAdd, Nat.reduceSub, Nat.reduceMul, Nat.reduceBEq, Nat.reduceLT, Nat.reduceLeDiff, Nat.reduceEqDiff, Int.reduceToNat, Int.reduceLE, Int.reduceLT, Int.reduceAdd, Int.reduceSub, Int.reduceNeg, Int.reduceBEq, Int.reduceBNe, Nat.reduceBNe, Nat.reduceDiv, Nat.reduceMod, i1, i2, Nat.zero_div, Nat.zero_mod]) <;> simp)) trivial ?_
  intro k γ hk _
  replace hk : k ≤ 128 := hk
  refine kont_of_hx cx_ok hb 200 ?_
  simp only [go_sem, Nat.reduceAdd, Nat.reduceSub, Nat.reduceMul, Nat.reduceBEq, Nat.reduceLT, Nat.reduceLeDiff, Nat.reduceEqDiff, Int.reduceToNat, Int.reduceLE, Int.reduceLT, Int.reduceAdd, Int.reduceSub, Int.reduceNeg, Int.reduceBEq, Int.reduceBNe, Nat.reduceBNe, Nat.reduceDiv, Nat.reduceMod]
  have hwr := wrap_succ (show k < 4611686018427387904 by omega)
  first | refine hite_lt hk (fun hk1 => ?_) (fun hk1 => ?_) | refine hite_ltI hk (fun hk1 => ?_) (fun hk1 => ?_)
  · replace hk1 : k < 128 := hk1
    have hlt : decide ((k : Int) < 128) = true := by simp; omega
    have hb1 : 0 < b := by omega
    have t1 : dT a (k + 1) = 2 * dT a k + dA a k / 2 ^ 127 := top_step a k hk1
    have t2 : dA a k * 2 % 2 ^ 128 = dA a (k + 1) := shift_step a k
    have t3 := div_step (dT a k) b (dA a k / 2 ^ 127) hb1 (by have := dA_lt a k; omega)
    have t4 := Nat.mod_lt (dT a k) hb1
    have t5 := dA_lt a k
    have t6 := dT_lt a (k + 1) ha
    rw [← t1] at t3
    have t7 : dT a (k + 1) / b < 2 ^ 128 := Nat.lt_of_le_of_lt (Nat.div_le_self _ _) t6
    have t8 : dT a k / b < 2 ^ 128 := Nat.lt_of_le_of_lt (Nat.div_le_self _ _) (dT_lt a k ha)
    by_cases hge : b ≤ 2 * (dT a k % b) + dA a k / 2 ^ 127
    · obtain ⟨q1, q2⟩ := t3.1 hge
      have e1 : IntKind.u64.wrap ((((2 * (dT a k % b) + dA a k / 2 ^ 127) % 18446744073709551616 : Nat) : Int) - (b : Int)) = ((dT a (k + 1) % b : Nat) : Int) := by
        rw [wu_sub _ b (by omega), q2]; congr 1; omega
      have e2 : dT a k / b * 2 % 2 ^ 128 = dT a k / b * 2 := by omega
      have e3 : ((dT a k / b * 2 + 1) % 2 ^ 128) = dT a (k + 1) / b := by omega
      have e4 : dT a k / b * 2 % 2 ^ 128 / 18446744073709551616 = dT a (k + 1) / b / 18446744073709551616 := by omega
      by_cases ho : dT a k % b / 9223372036854775808 = 0
      · have hcmp : decide (b ≤ (2 * (dT a k % b) + dA a k / 2 ^ 127) % 18446744073709551616) = true := by simp; omega
        have hout : ((((dT a k % b / 9223372036854775808 : Nat)) : Int) != 0) = false := bnF ho
        simp only [go_sem, Nat.reduceAdd, Nat.reduceSub, Nat.reduceMul, Nat.reduceBEq, Nat.reduceLT, Nat.reduceLeDiff, Nat.reduceEqDiff, Int.reduceToNat, Int.reduceLE, Int.reduceLT, Int.reduceAdd, Int.reduceSub, Int.reduceNeg, Int.reduceBEq, Int.reduceBNe, Nat.reduceBNe, Nat.reduceDiv, Nat.reduceMod, hlt, shl_r _ _ (dA_lt a k), shl_hi _ (dA_lt a k), shl_hi _ t8, shl_lo, shr63, hout, hcmp, e1, t2, or_one, e3, e4]
        repeat (refine And.intro (by first | assumption | omega) ?_)
        refine ⟨_, Weak.to 3 (by (simp only [go_sem, Nat.reduceAdd, Nat.reduceSub, Nat.reduceMul, Nat.reduceBEq, Nat.reduceLT, Nat.reduceLeDiff, Nat.reduceEqDiff, Int.reduceToNat, Int.reduceLE, Int.reduceLT, Int.reduceAdd, Int.reduceSub, Int.reduceNeg, Int.reduceBEq, Int.reduceBNe, Nat.reduceBNe, Nat.reduceDiv, Nat.reduceMod, hwr, e1, t2, or_one, e3, e4]) <;> simp), ForS.mk (γ) (trivial)⟩
      · have hout : ((((dT a k % b / 9223372036854775808 : Nat)) : Int) != 0) = true := bnT ho
        simp only [go_sem, Nat.reduceAdd, Nat.reduceSub, Nat.reduceMul, Nat.reduceBEq, Nat.reduceLT, Nat.reduceLeDiff, Nat.reduceEqDiff, Int.reduceToNat, Int.reduceLE, Int.reduceLT, Int.reduceAdd, Int.reduceSub, Int.reduceNeg, Int.reduceBEq, Int.reduceBNe, Nat.reduceBNe, Nat.reduceDiv, Nat.reduceMod, hlt, shl_r _ _ (dA_lt a k), shl_hi _ (dA_lt a k), shl_hi _ t8, shl_lo, shr63, hout, e1, t2, or_one, e3, e4]
        repeat (refine And.intro (by first | assumption | omega) ?_)
        refine ⟨_, Weak.to 3 (by (simp only [go_sem, Nat.reduceAdd, Nat.reduceSub, Nat.reduceMul, Nat.reduceBEq, Nat.reduceLT, Nat.reduceLeDiff, Nat.reduceEqDiff, Int.reduceToNat, Int.reduceLE, Int.reduceLT, Int.reduceAdd, Int.reduceSub, Int.reduceNeg, Int.reduceBEq, Int.reduceBNe, Nat.reduceBNe, Nat.reduceDiv, Nat.reduceMod, hwr, e1, t2, or_one, e3, e4]) <;> simp), ForS.mk (γ) (trivial)⟩
    · obtain ⟨q1, q2⟩ := t3.2 (by omega)
      have e1 : (2 * (dT a k % b) + dA a k / 2 ^ 127) % 18446744073709551616 = dT a (k + 1) % b := by omega
      have e3 : dT a k / b * 2 % 2 ^ 128 = dT a (k + 1) / b := by omega
      have ho : dT a k % b / 9223372036854775808 = 0 := by omega
      have hcmp : decide (b ≤ dT a (k + 1) % b) = false := by simp; omega
      have hout := bnF ho
      simp only [go_sem, Nat.reduceAdd, Nat.reduceSub, Nat.reduceMul, Nat.reduceBEq, Nat.reduceLT, Nat.reduceLeDiff, Nat.reduceEqDiff, Int.reduceToNat, Int.reduceLE, Int.reduceLT, Int.reduceAdd, Int.reduceSub, Int.reduceNeg, Int.reduceBEq, Int.reduceBNe, Nat.reduceBNe, Nat.reduceDiv, Nat.reduceMod, hlt, shl_r _ _ (dA_lt a k), shl_hi _ (dA_lt a k), shl_hi _ t8, shl_lo, shr63, hout, e1, hcmp, t2, e3]
      repeat (refine And.intro (by first | assumption | omega) ?_)
      refine ⟨_, Weak.to 3 (by (simp only [go_sem, Nat.reduceAdd, Nat.reduceSub, Nat.reduceMul, Nat.reduceBEq, Nat.reduceLT, Nat.reduceLeDiff, Nat.reduceEqDiff, Int.reduceToNat, Int.reduceLE, Int.reduceLT, Int.reduceAdd, Int.reduceSub, Int.reduceNeg, Int.reduceBEq, Int.reduceBNe, Nat.reduceBNe, Nat.reduceDiv, Nat.reduceMod, hwr, e1, t2, e3]) <;> simp), ForS.mk (γ) (trivial)⟩
  · have hlt : decide ((k : Int) < 128) = false := by rw [hk1]; rfl
    have e1 : dT a k = a := by rw [hk1]; show a / 2 ^ 0 = a; rw [Nat.pow_zero, Nat.div_one]
    simp only [go_sem, Nat.reduceAdd, Nat.reduceSub, Nat.reduceMul, Nat.reduceBEq, Nat.reduceLT, Nat.reduceLeDiff, Nat.reduceEqDiff, Int.reduceToNat, Int.reduceLE, Int.reduceLT, Int.reduceAdd, Int.reduceSub, Int.reduceNeg, Int.reduceBEq, Int.reduceBNe, Nat.reduceBNe, Nat.reduceDiv, Nat.reduceMod, hlt, e1]
    refine kont_of_hx cx_ok hb 200 ?_
    simp only [go_sem, Nat.reduceAdd, Nat.reduceSub, Nat.reduceMul, Nat.reduceBEq, Nat.reduceLT, Nat.reduceLeDiff, Nat.reduceEqDiff, Int.reduceToNat, Int.reduceLE, Int.reduceLT, Int.reduceAdd, Int.reduceSub, Int.reduceNeg, Int.reduceBEq, Int.reduceBNe, Nat.reduceBNe, Nat.reduceDiv, Nat.reduceMod]
    rw [if_neg hb0, if_neg hb0, if_neg hb0]
end Go.Fg.X
