/- Walks of the functions that the statement reaches. No conditions: contracts and laws. -/
import Derived.Test.YtoenkapnfbcjeaaXW5
namespace Go.Fg.X
open Go.Proofs Go.Fg
set_option maxRecDepth 100000
set_option maxHeartbeats 4000000
set_option linter.unusedSimpArgs false
set_option linter.unusedVariables false
theorem dg_add (x y : Nat) (h : x = y + 2 ^ 128) : d0 x = d0 y ∧ d1 x = d1 y ∧ d2 x = d2 y ∧ d3 x = d3 y := by
  subst h; simp only [d0, d1, d2, d3]; exact ⟨by omega, by omega, by omega, by omega⟩
theorem bit_step (a k : Nat) (hk : k < 128) : a / 2 ^ (128 - (k + 1)) = 2 * (a / 2 ^ (128 - k)) + a / 2 ^ (127 - k) % 2 := by
  have e1 : 128 - (k + 1) = 127 - k := by omega
  have e2 : 128 - k = 127 - k + 1 := by omega
  rw [e1, e2, Nat.pow_succ, ← Nat.div_div_eq_div_mul]
  omega
theorem dT_half (a k : Nat) (ha : a < 2 ^ 128) (hk : k < 128) : dT a k < 2 ^ 127 := by
  have e2 : 128 - k = 127 - k + 1 := by omega
  unfold dT
  rw [e2, Nat.pow_succ, ← Nat.div_div_eq_div_mul]
  have := Nat.div_le_self a (2 ^ (127 - k))
  omega
theorem rquo_ok (a b : Nat) (ha : a < 2 ^ 128) (hb : b < 18446744073709551616) (hb0 : 0 < b) : AFn Try.prog 137 [dg a, u64 b] (Ret (.tup [dg (a / b), u64 (a % b)])) := by
  refine AFn_hxk 0 cx_ok 200 Try.func137 rfl Try.ntmps137 Try.results137 rfl fun base w hb => ?_
  simp only [go_sem, Nat.reduceAdd, Nat.reduceSub, Nat.reduceMul, Nat.reduceBEq, Nat.reduceLT, Nat.reduceLeDiff, Nat.reduceEqDiff, Int.reduceToNat, Int.reduceLE, Int.reduceLT, Int.reduceAdd, Int.reduceSub, Int.reduceNeg, Int.reduceBEq, Int.reduceBNe, Nat.reduceBNe, Nat.reduceDiv, Nat.reduceMod]
  have i2 : dT a 0 = 0 := Nat.div_eq_of_lt ha
  have z0 : d0 0 = 0 := rfl
  have z1 : d1 0 = 0 := rfl
  have z2 : d2 0 = 0 := rfl
  have z3 : d3 0 = 0 := rfl
  refine kont_forF (G := Nat) [1, 2, 4, 6, 7] (fun k => True) (fun k γ => [(11, dint k)]) (fun k γ => [⟨.one, 0, 4, 1, fun _ => [u64 (d0 a), u64 (d1 a), u64 (d2 a), u64 (d3 a)]⟩, ⟨.one, 0, 4, 1, fun _ => [u64 0, u64 0, u64 0, u64 0]⟩, ⟨.one, 0, 4, 1, fun _ => [u64 (d0 (dT a k / b)), u64 (d1 (dT a k / b)), u64 (d2 (dT a k / b)), u64 (d3 (dT a k / b))]⟩, ⟨.one, 0, 4, 1, fun _ => [u64 (d0 (dT a k % b)), u64 (d1 (dT a k % b)), u64 (d2 (dT a k % b)), u64 (d3 (dT a k % b))]⟩]) (128) (0) rfl (Weak.to 4 (by (simp only [go_sem, Nat.reduceAdd, Nat.reduceSub, Nat.reduceMul, Nat.reduceBEq, Nat.reduceLT, Nat.reduceLeDiff, Nat.reduceEqDiff, Int.reduceToNat, Int.reduceLE, Int.reduceLT, Int.reduceAdd, Int.reduceSub, Int.reduceNeg, Int.reduceBEq, Int.reduceBNe, Nat.reduceBNe, Nat.reduceDiv, Nat.reduceMod, i2, Nat.zero_div, Nat.zero_mod, z0, z1, z2, z3]) <;> simp)) trivial ?_
  intro k γ hk _
  replace hk : k ≤ 128 := hk
  refine kont_of_hx cx_ok hb 200 ?_
  simp only [go_sem, Nat.reduceAdd, Nat.reduceSub, Nat.reduceMul, Nat.reduceBEq, Nat.reduceLT, Nat.reduceLeDiff, Nat.reduceEqDiff, Int.reduceToNat, Int.reduceLE, Int.reduceLT, Int.reduceAdd, Int.reduceSub, Int.reduceNeg, Int.reduceBEq, Int.reduceBNe, Nat.reduceBNe, Nat.reduceDiv, Nat.reduceMod]
  have hwr := wrap_succ (show k < 4611686018427387904 by omega)
  first | refine hite_lt hk (fun hk1 => ?_) (fun hk1 => ?_) | refine hite_ltI hk (fun hk1 => ?_) (fun hk1 => ?_)
  · replace hk1 : k < 128 := hk1
    have hlt : decide ((k : Int) < 128) = true := by simp; omega
    have t1 : dT a (k + 1) = 2 * dT a k + a / 2 ^ (127 - k) % 2 := bit_step a k hk1
    have t3 := div_step (dT a k) b (a / 2 ^ (127 - k) % 2) hb0 (by omega)
    have t4 := Nat.mod_lt (dT a k) hb0
    have t5 := dT_half a k ha hk1
    rw [← t1] at t3
    have t8 : dT a k / b < 2 ^ 127 := Nat.lt_of_le_of_lt (Nat.div_le_self _ _) t5
    have hw7 : IntKind.i64.wrap (127 - (k : Int)) = ((127 - k : Nat) : Int) := by rw [wrap64 (by omega) (by omega)]; omega
    simp only [go_sem, Nat.reduceAdd, Nat.reduceSub, Nat.reduceMul, Nat.reduceBEq, Nat.reduceLT, Nat.reduceLeDiff, Nat.reduceEqDiff, Int.reduceToNat, Int.reduceLE, Int.reduceLT, Int.reduceAdd, Int.reduceSub, Int.reduceNeg, Int.reduceBEq, Int.reduceBNe, Nat.reduceBNe, Nat.reduceDiv, Nat.reduceMod, hlt]
    refine kont_hax cx_ok hb 200 mixed [(0, true), (1, true), (2, true), (3, true), (4, false), (5, false), (6, false)] (by kernel_rfl) (by kernel_rfl) ?_
    simp only [go_sem, Nat.reduceAdd, Nat.reduceSub, Nat.reduceMul, Nat.reduceBEq, Nat.reduceLT, Nat.reduceLeDiff, Nat.reduceEqDiff, Int.reduceToNat, Int.reduceLE, Int.reduceLT, Int.reduceAdd, Int.reduceSub, Int.reduceNeg, Int.reduceBEq, Int.reduceBNe, Nat.reduceBNe, Nat.reduceDiv, Nat.reduceMod, hw7]
    have hM : 2 * (dT a k % b) + a / 2 ^ (127 - k) % 2 = dT a k % b + dT a k % b + a / 2 ^ (127 - k) % 2 := by omega
    refine AX_call hb fn167 rfl ?_ (rbit_ok a (127 - k) (by omega)) (Ret.flat rfl) rfl fun d h hR => ?_
    · simp only [go_sem, Nat.reduceAdd, Nat.reduceSub, Nat.reduceMul, Nat.reduceBEq, Nat.reduceLT, Nat.reduceLeDiff, Nat.reduceEqDiff, Int.reduceToNat, Int.reduceLE, Int.reduceLT, Int.reduceAdd, Int.reduceSub, Int.reduceNeg, Int.reduceBEq, Int.reduceBNe, Nat.reduceBNe, Nat.reduceDiv, Nat.reduceMod]
    obtain ⟨rfl, rfl⟩ := hR
    refine AX_of_hax cx_ok hb ?_
    simp only [go_sem, Nat.reduceAdd, Nat.reduceSub, Nat.reduceMul, Nat.reduceBEq, Nat.reduceLT, Nat.reduceLeDiff, Nat.reduceEqDiff, Int.reduceToNat, Int.reduceLE, Int.reduceLT, Int.reduceAdd, Int.reduceSub, Int.reduceNeg, Int.reduceBEq, Int.reduceBNe, Nat.reduceBNe, Nat.reduceDiv, Nat.reduceMod]
    refine AX_call hb fn166 rfl ?_ (rtwice_ok (dT a k % b) (a / 2 ^ (127 - k) % 2) (by omega) (by omega)) (Ret.flat rfl) rfl fun d h hR => ?_
    · simp only [go_sem, Nat.reduceAdd, Nat.reduceSub, Nat.reduceMul, Nat.reduceBEq, Nat.reduceLT, Nat.reduceLeDiff, Nat.reduceEqDiff, Int.reduceToNat, Int.reduceLE, Int.reduceLT, Int.reduceAdd, Int.reduceSub, Int.reduceNeg, Int.reduceBEq, Int.reduceBNe, Nat.reduceBNe, Nat.reduceDiv, Nat.reduceMod]
    obtain ⟨rfl, rfl⟩ := hR
    refine AX_of_hax cx_ok hb ?_
    simp only [go_sem, Nat.reduceAdd, Nat.reduceSub, Nat.reduceMul, Nat.reduceBEq, Nat.reduceLT, Nat.reduceLeDiff, Nat.reduceEqDiff, Int.reduceToNat, Int.reduceLE, Int.reduceLT, Int.reduceAdd, Int.reduceSub, Int.reduceNeg, Int.reduceBEq, Int.reduceBNe, Nat.reduceBNe, Nat.reduceDiv, Nat.reduceMod]
    rw [hM] at t3
    have t6 : dT a k % b + dT a k % b + a / 2 ^ (127 - k) % 2 < 2 ^ 127 := by omega
    generalize hR : dT a k % b + dT a k % b + a / 2 ^ (127 - k) % 2 = R at *
    refine kont_hax cx_ok hb 200 mixed [(0, true), (1, true), (2, false), (3, false)] (by kernel_rfl) (by kernel_rfl) ?_
    simp only [go_sem, Nat.reduceAdd, Nat.reduceSub, Nat.reduceMul, Nat.reduceBEq, Nat.reduceLT, Nat.reduceLeDiff, Nat.reduceEqDiff, Int.reduceToNat, Int.reduceLE, Int.reduceLT, Int.reduceAdd, Int.reduceSub, Int.reduceNeg, Int.reduceBEq, Int.reduceBNe, Nat.reduceBNe, Nat.reduceDiv, Nat.reduceMod]
    refine AX_call hb fn120 rfl ?_ (rof_ok b ‹_›) (Ret.flat rfl) rfl fun d h hR => ?_
    · simp only [go_sem, Nat.reduceAdd, Nat.reduceSub, Nat.reduceMul, Nat.reduceBEq, Nat.reduceLT, Nat.reduceLeDiff, Nat.reduceEqDiff, Int.reduceToNat, Int.reduceLE, Int.reduceLT, Int.reduceAdd, Int.reduceSub, Int.reduceNeg, Int.reduceBEq, Int.reduceBNe, Nat.reduceBNe, Nat.reduceDiv, Nat.reduceMod]
    obtain ⟨rfl, rfl⟩ := hR
    refine AX_of_hax cx_ok hb ?_
    simp only [go_sem, Nat.reduceAdd, Nat.reduceSub, Nat.reduceMul, Nat.reduceBEq, Nat.reduceLT, Nat.reduceLeDiff, Nat.reduceEqDiff, Int.reduceToNat, Int.reduceLE, Int.reduceLT, Int.reduceAdd, Int.reduceSub, Int.reduceNeg, Int.reduceBEq, Int.reduceBNe, Nat.reduceBNe, Nat.reduceDiv, Nat.reduceMod]
    refine AX_call hb fn37 rfl ?_ (less_ok R b (by omega) (by omega)) (Ret.flat rfl) rfl fun d h hR => ?_
    · simp only [go_sem, Nat.reduceAdd, Nat.reduceSub, Nat.reduceMul, Nat.reduceBEq, Nat.reduceLT, Nat.reduceLeDiff, Nat.reduceEqDiff, Int.reduceToNat, Int.reduceLE, Int.reduceLT, Int.reduceAdd, Int.reduceSub, Int.reduceNeg, Int.reduceBEq, Int.reduceBNe, Nat.reduceBNe, Nat.reduceDiv, Nat.reduceMod]
    obtain ⟨rfl, rfl⟩ := hR
    refine AX_of_hax cx_ok hb ?_
    simp only [go_sem, Nat.reduceAdd, Nat.reduceSub, Nat.reduceMul, Nat.reduceBEq, Nat.reduceLT, Nat.reduceLeDiff, Nat.reduceEqDiff, Int.reduceToNat, Int.reduceLE, Int.reduceLT, Int.reduceAdd, Int.reduceSub, Int.reduceNeg, Int.reduceBEq, Int.reduceBNe, Nat.reduceBNe, Nat.reduceDiv, Nat.reduceMod]
    by_cases hge : b ≤ R
    · obtain ⟨q1, q2⟩ := t3.1 hge
      have hc : decide (R < b) = false := by simp; omega
      have e1 : dT a k / b + dT a k / b + 1 = dT a (k + 1) / b := by omega
      have e2 := dg_add (R + 2 ^ 128 - b) (dT a (k + 1) % b) (by omega)
      simp only [go_sem, Nat.reduceAdd, Nat.reduceSub, Nat.reduceMul, Nat.reduceBEq, Nat.reduceLT, Nat.reduceLeDiff, Nat.reduceEqDiff, Int.reduceToNat, Int.reduceLE, Int.reduceLT, Int.reduceAdd, Int.reduceSub, Int.reduceNeg, Int.reduceBEq, Int.reduceBNe, Nat.reduceBNe, Nat.reduceDiv, Nat.reduceMod, hc]
      refine kont_hax cx_ok hb 200 mixed [(0, true), (1, true), (2, false), (3, false), (4, false)] (by kernel_rfl) (by kernel_rfl) ?_
      simp only [go_sem, Nat.reduceAdd, Nat.reduceSub, Nat.reduceMul, Nat.reduceBEq, Nat.reduceLT, Nat.reduceLeDiff, Nat.reduceEqDiff, Int.reduceToNat, Int.reduceLE, Int.reduceLT, Int.reduceAdd, Int.reduceSub, Int.reduceNeg, Int.reduceBEq, Int.reduceBNe, Nat.reduceBNe, Nat.reduceDiv, Nat.reduceMod]
      refine AX_call hb fn120 rfl ?_ (rof_ok b ‹_›) (Ret.flat rfl) rfl fun d h hR => ?_
      · simp only [go_sem, Nat.reduceAdd, Nat.reduceSub, Nat.reduceMul, Nat.reduceBEq, Nat.reduceLT, Nat.reduceLeDiff, Nat.reduceEqDiff, Int.reduceToNat, Int.reduceLE, Int.reduceLT, Int.reduceAdd, Int.reduceSub, Int.reduceNeg, Int.reduceBEq, Int.reduceBNe, Nat.reduceBNe, Nat.reduceDiv, Nat.reduceMod]
      obtain ⟨rfl, rfl⟩ := hR
      refine AX_of_hax cx_ok hb ?_
      simp only [go_sem, Nat.reduceAdd, Nat.reduceSub, Nat.reduceMul, Nat.reduceBEq, Nat.reduceLT, Nat.reduceLeDiff, Nat.reduceEqDiff, Int.reduceToNat, Int.reduceLE, Int.reduceLT, Int.reduceAdd, Int.reduceSub, Int.reduceNeg, Int.reduceBEq, Int.reduceBNe, Nat.reduceBNe, Nat.reduceDiv, Nat.reduceMod]
      refine AX_call hb fn78 rfl ?_ (rminus_ok R b (by omega) (by omega)) (Ret.flat rfl) rfl fun d h hR => ?_
      · simp only [go_sem, Nat.reduceAdd, Nat.reduceSub, Nat.reduceMul, Nat.reduceBEq, Nat.reduceLT, Nat.reduceLeDiff, Nat.reduceEqDiff, Int.reduceToNat, Int.reduceLE, Int.reduceLT, Int.reduceAdd, Int.reduceSub, Int.reduceNeg, Int.reduceBEq, Int.reduceBNe, Nat.reduceBNe, Nat.reduceDiv, Nat.reduceMod, e2.1, e2.2.1, e2.2.2.1, e2.2.2.2]
      obtain ⟨rfl, rfl⟩ := hR
      refine AX_of_hax cx_ok hb ?_
      simp only [go_sem, Nat.reduceAdd, Nat.reduceSub, Nat.reduceMul, Nat.reduceBEq, Nat.reduceLT, Nat.reduceLeDiff, Nat.reduceEqDiff, Int.reduceToNat, Int.reduceLE, Int.reduceLT, Int.reduceAdd, Int.reduceSub, Int.reduceNeg, Int.reduceBEq, Int.reduceBNe, Nat.reduceBNe, Nat.reduceDiv, Nat.reduceMod, e2.1, e2.2.1, e2.2.2.1, e2.2.2.2]
      refine kont_call hb fn166 rfl ?_ (rtwice_ok (dT a k / b) 1 (by omega) (by omega)) (Ret.flat rfl) rfl fun d h hR => ?_
      · simp only [go_sem, Nat.reduceAdd, Nat.reduceSub, Nat.reduceMul, Nat.reduceBEq, Nat.reduceLT, Nat.reduceLeDiff, Nat.reduceEqDiff, Int.reduceToNat, Int.reduceLE, Int.reduceLT, Int.reduceAdd, Int.reduceSub, Int.reduceNeg, Int.reduceBEq, Int.reduceBNe, Nat.reduceBNe, Nat.reduceDiv, Nat.reduceMod, ci1, e1, e2.1, e2.2.1, e2.2.2.1, e2.2.2.2]
      obtain ⟨rfl, rfl⟩ := hR
      refine kont_of_hx cx_ok hb 200 ?_
      simp only [go_sem, Nat.reduceAdd, Nat.reduceSub, Nat.reduceMul, Nat.reduceBEq, Nat.reduceLT, Nat.reduceLeDiff, Nat.reduceEqDiff, Int.reduceToNat, Int.reduceLE, Int.reduceLT, Int.reduceAdd, Int.reduceSub, Int.reduceNeg, Int.reduceBEq, Int.reduceBNe, Nat.reduceBNe, Nat.reduceDiv, Nat.reduceMod, ci1, e1, e2.1, e2.2.1, e2.2.2.1, e2.2.2.2]
      repeat (refine And.intro (by first | assumption | omega) ?_)
      refine ⟨_, Weak.to 4 (by (simp only [go_sem, Nat.reduceAdd, Nat.reduceSub, Nat.reduceMul, Nat.reduceBEq, Nat.reduceLT, Nat.reduceLeDiff, Nat.reduceEqDiff, Int.reduceToNat, Int.reduceLE, Int.reduceLT, Int.reduceAdd, Int.reduceSub, Int.reduceNeg, Int.reduceBEq, Int.reduceBNe, Nat.reduceBNe, Nat.reduceDiv, Nat.reduceMod, hwr, e1, e2.1, e2.2.1, e2.2.2.1, e2.2.2.2]) <;> simp), ForS.mk (γ) (trivial)⟩
    · obtain ⟨q1, q2⟩ := t3.2 (by omega)
      have hc : decide (R < b) = true := by simp; omega
      have e1 : dT a k / b + dT a k / b + 0 = dT a (k + 1) / b := by omega
      simp only [go_sem, Nat.reduceAdd, Nat.reduceSub, Nat.reduceMul, Nat.reduceBEq, Nat.reduceLT, Nat.reduceLeDiff, Nat.reduceEqDiff, Int.reduceToNat, Int.reduceLE, Int.reduceLT, Int.reduceAdd, Int.reduceSub, Int.reduceNeg, Int.reduceBEq, Int.reduceBNe, Nat.reduceBNe, Nat.reduceDiv, Nat.reduceMod, hc]
      refine kont_call hb fn166 rfl ?_ (rtwice_ok (dT a k / b) 0 (by omega) (by omega)) (Ret.flat rfl) rfl fun d h hR => ?_
      · simp only [go_sem, Nat.reduceAdd, Nat.reduceSub, Nat.reduceMul, Nat.reduceBEq, Nat.reduceLT, Nat.reduceLeDiff, Nat.reduceEqDiff, Int.reduceToNat, Int.reduceLE, Int.reduceLT, Int.reduceAdd, Int.reduceSub, Int.reduceNeg, Int.reduceBEq, Int.reduceBNe, Nat.reduceBNe, Nat.reduceDiv, Nat.reduceMod, ci0, e1, ← q2]
      obtain ⟨rfl, rfl⟩ := hR
      refine kont_of_hx cx_ok hb 200 ?_
      simp only [go_sem, Nat.reduceAdd, Nat.reduceSub, Nat.reduceMul, Nat.reduceBEq, Nat.reduceLT, Nat.reduceLeDiff, Nat.reduceEqDiff, Int.reduceToNat, Int.reduceLE, Int.reduceLT, Int.reduceAdd, Int.reduceSub, Int.reduceNeg, Int.reduceBEq, Int.reduceBNe, Nat.reduceBNe, Nat.reduceDiv, Nat.reduceMod, ci0, e1, ← q2]
      repeat (refine And.intro (by first | assumption | omega) ?_)
      refine ⟨_, Weak.to 4 (by (simp only [go_sem, Nat.reduceAdd, Nat.reduceSub, Nat.reduceMul, Nat.reduceBEq, Nat.reduceLT, Nat.reduceLeDiff, Nat.reduceEqDiff, Int.reduceToNat, Int.reduceLE, Int.reduceLT, Int.reduceAdd, Int.reduceSub, Int.reduceNeg, Int.reduceBEq, Int.reduceBNe, Nat.reduceBNe, Nat.reduceDiv, Nat.reduceMod, hwr, e1, ← q2]) <;> simp), ForS.mk (γ) (trivial)⟩
  · have hlt : decide ((k : Int) < 128) = false := by rw [hk1]; rfl
    have e1 : dT a k = a := by rw [hk1]; show a / 2 ^ 0 = a; rw [Nat.pow_zero, Nat.div_one]
    have e2 : a % b < 18446744073709551616 := by have := Nat.mod_lt a hb0; omega
    simp only [go_sem, Nat.reduceAdd, Nat.reduceSub, Nat.reduceMul, Nat.reduceBEq, Nat.reduceLT, Nat.reduceLeDiff, Nat.reduceEqDiff, Int.reduceToNat, Int.reduceLE, Int.reduceLT, Int.reduceAdd, Int.reduceSub, Int.reduceNeg, Int.reduceBEq, Int.reduceBNe, Nat.reduceBNe, Nat.reduceDiv, Nat.reduceMod, hlt, e1]
    refine kont_of_hx cx_ok hb 200 ?_
    simp only [go_sem, Nat.reduceAdd, Nat.reduceSub, Nat.reduceMul, Nat.reduceBEq, Nat.reduceLT, Nat.reduceLeDiff, Nat.reduceEqDiff, Int.reduceToNat, Int.reduceLE, Int.reduceLT, Int.reduceAdd, Int.reduceSub, Int.reduceNeg, Int.reduceBEq, Int.reduceBNe, Nat.reduceBNe, Nat.reduceDiv, Nat.reduceMod]
    refine kont_hax cx_ok hb 200 mixed [(0, true), (1, true), (2, false), (3, false), (4, false)] (by kernel_rfl) (by kernel_rfl) ?_
    simp only [go_sem, Nat.reduceAdd, Nat.reduceSub, Nat.reduceMul, Nat.reduceBEq, Nat.reduceLT, Nat.reduceLeDiff, Nat.reduceEqDiff, Int.reduceToNat, Int.reduceLE, Int.reduceLT, Int.reduceAdd, Int.reduceSub, Int.reduceNeg, Int.reduceBEq, Int.reduceBNe, Nat.reduceBNe, Nat.reduceDiv, Nat.reduceMod]
    refine AX_call hb fn119 rfl ?_ (rlo_ok (a % b) (by omega)) (Ret.flat rfl) rfl fun d h hR => ?_
    · simp only [go_sem, Nat.reduceAdd, Nat.reduceSub, Nat.reduceMul, Nat.reduceBEq, Nat.reduceLT, Nat.reduceLeDiff, Nat.reduceEqDiff, Int.reduceToNat, Int.reduceLE, Int.reduceLT, Int.reduceAdd, Int.reduceSub, Int.reduceNeg, Int.reduceBEq, Int.reduceBNe, Nat.reduceBNe, Nat.reduceDiv, Nat.reduceMod, Nat.mod_eq_of_lt e2]
    obtain ⟨rfl, rfl⟩ := hR
    refine AX_of_hax cx_ok hb ?_
    simp only [go_sem, Nat.reduceAdd, Nat.reduceSub, Nat.reduceMul, Nat.reduceBEq, Nat.reduceLT, Nat.reduceLeDiff, Nat.reduceEqDiff, Int.reduceToNat, Int.reduceLE, Int.reduceLT, Int.reduceAdd, Int.reduceSub, Int.reduceNeg, Int.reduceBEq, Int.reduceBNe, Nat.reduceBNe, Nat.reduceDiv, Nat.reduceMod, Nat.mod_eq_of_lt e2]
def pmD (x y : Nat) : Nat → Nat
  | 0 => 0
  | 1 => d0 x * d0 y
  | 2 => d0 x * d0 y + d0 x * d1 y * 4294967296
  | 3 => d0 x * d0 y + d0 x * d1 y * 4294967296 + d1 x * d0 y * 4294967296
  | _ => d0 x * d0 y + d0 x * d1 y * 4294967296 + d1 x * d0 y * 4294967296 + d1 x * d1 y * 18446744073709551616
theorem rmul_ok (x y : Nat) (hx : x < 18446744073709551616) (hy : y < 18446744073709551616) : AFn Try.prog 76 [u64 x, u64 y] (Ret (dg (x * y))) := by
  obtain ⟨P, Q, R, S, hP, hQ, hR, hS, hab, bP, bQ, bR, bS⟩ := mul_parts x y (d1 x) (d0 x) (d1 y) (d0 y) (by unfold d1 d0; omega) (by unfold d1 d0; omega) (d1_lt x) (d0_lt x) (d1_lt y) (d0_lt y)
  have z0 : d0 0 = 0 := rfl
  have z1 : d1 0 = 0 := rfl
  have z2 : d2 0 = 0 := rfl
  have z3 : d3 0 = 0 := rfl
  have hx2 : d2 x = 0 := by unfold d2; omega
  have hx3 : d3 x = 0 := by unfold d3; omega
  have hy2 : d2 y = 0 := by unfold d2; omega
  have hy3 : d3 y = 0 := by unfold d3; omega
  have p0 : pmD x y 0 = 0 := rfl
  have p1 : pmD x y 1 = S := by simp only [pmD, hS]
  have p2 : pmD x y 2 = S + R * 4294967296 := by simp only [pmD, hS, hR]
  have p3 : pmD x y 3 = S + R * 4294967296 + Q * 4294967296 := by simp only [pmD, hS, hR, hQ]
  have p4 : pmD x y 4 = S + R * 4294967296 + Q * 4294967296 + P * 18446744073709551616 := by simp only [pmD, hS, hR, hQ, hP]
  have hend : pmD x y 4 = x * y := by rw [p4, hab]; omega
  refine AFn_hxk 0 cx_ok 200 Try.func76 rfl Try.ntmps76 Try.results76 rfl fun base w hb => ?_
  simp only [go_sem, Nat.reduceAdd, Nat.reduceSub, Nat.reduceMul, Nat.reduceBEq, Nat.reduceLT, Nat.reduceLeDiff, Nat.reduceEqDiff, Int.reduceToNat, Int.reduceLE, Int.reduceLT, Int.reduceAdd, Int.reduceSub, Int.reduceNeg, Int.reduceBEq, Int.reduceBNe, Nat.reduceBNe, Nat.reduceDiv, Nat.reduceMod]
  refine kont_call hb fn120 rfl ?_ (rof_ok x hx) (Ret.flat rfl) rfl fun d h hR => ?_
  · simp only [go_sem, Nat.reduceAdd, Nat.reduceSub, Nat.reduceMul, Nat.reduceBEq, Nat.reduceLT, Nat.reduceLeDiff, Nat.reduceEqDiff, Int.reduceToNat, Int.reduceLE, Int.reduceLT, Int.reduceAdd, Int.reduceSub, Int.reduceNeg, Int.reduceBEq, Int.reduceBNe, Nat.reduceBNe, Nat.reduceDiv, Nat.reduceMod]
  obtain ⟨rfl, rfl⟩ := hR
  refine kont_of_hx cx_ok hb 200 ?_
  simp only [go_sem, Nat.reduceAdd, Nat.reduceSub, Nat.reduceMul, Nat.reduceBEq, Nat.reduceLT, Nat.reduceLeDiff, Nat.reduceEqDiff, Int.reduceToNat, Int.reduceLE, Int.reduceLT, Int.reduceAdd, Int.reduceSub, Int.reduceNeg, Int.reduceBEq, Int.reduceBNe, Nat.reduceBNe, Nat.reduceDiv, Nat.reduceMod]
  refine kont_call hb fn120 rfl ?_ (rof_ok y hy) (Ret.flat rfl) rfl fun d h hR => ?_
  · simp only [go_sem, Nat.reduceAdd, Nat.reduceSub, Nat.reduceMul, Nat.reduceBEq, Nat.reduceLT, Nat.reduceLeDiff, Nat.reduceEqDiff, Int.reduceToNat, Int.reduceLE, Int.reduceLT, Int.reduceAdd, Int.reduceSub, Int.reduceNeg, Int.reduceBEq, Int.reduceBNe, Nat.reduceBNe, Nat.reduceDiv, Nat.reduceMod, hx2, hx3]
  obtain ⟨rfl, rfl⟩ := hR
  refine kont_of_hx cx_ok hb 200 ?_
  simp only [go_sem, Nat.reduceAdd, Nat.reduceSub, Nat.reduceMul, Nat.reduceBEq, Nat.reduceLT, Nat.reduceLeDiff, Nat.reduceEqDiff, Int.reduceToNat, Int.reduceLE, Int.reduceLT, Int.reduceAdd, Int.reduceSub, Int.reduceNeg, Int.reduceBEq, Int.reduceBNe, Nat.reduceBNe, Nat.reduceDiv, Nat.reduceMod, hx2, hx3]
  refine kont_forF (G := Nat) [4, 5, 6, 7] (fun k => True) (fun k γ => [(17, dint k)]) (fun k γ => [⟨.one, 0, 4, 1, fun _ => [u64 0, u64 0, u64 0, u64 0]⟩, ⟨.one, 0, 4, 1, fun _ => [u64 (d0 x), u64 (d1 x), u64 0, u64 0]⟩, ⟨.one, 0, 4, 1, fun _ => [u64 (d0 y), u64 (d1 y), u64 0, u64 0]⟩, ⟨.one, 0, 4, 1, fun _ => [u64 (d0 (pmD x y (2 * k))), u64 (d1 (pmD x y (2 * k))), u64 (d2 (pmD x y (2 * k))), u64 (d3 (pmD x y (2 * k)))]⟩]) (2) (0) rfl (Weak.to 4 (by (simp only [go_sem, Nat.reduceAdd, Nat.reduceSub, Nat.reduceMul, Nat.reduceBEq, Nat.reduceLT, Nat.reduceLeDiff, Nat.reduceEqDiff, Int.reduceToNat, Int.reduceLE, Int.reduceLT, Int.reduceAdd, Int.reduceSub, Int.reduceNeg, Int.reduceBEq, Int.reduceBNe, Nat.reduceBNe, Nat.reduceDiv, Nat.reduceMod, z0, z1, z2, z3, p0, hx2, hx3, hy2, hy3, Nat.mul_zero]) <;> simp)) trivial ?_
  intro k γ hk _
  have hk' : k = 0 ∨ k = 1 ∨ k = 2 := by have : k ≤ 2 := hk; omega
  rcases hk' with rfl | rfl | rfl
  · refine kont_of_hx cx_ok hb 200 ?_
    simp only [go_sem, Nat.reduceAdd, Nat.reduceSub, Nat.reduceMul, Nat.reduceBEq, Nat.reduceLT, Nat.reduceLeDiff, Nat.reduceEqDiff, Int.reduceToNat, Int.reduceLE, Int.reduceLT, Int.reduceAdd, Int.reduceSub, Int.reduceNeg, Int.reduceBEq, Int.reduceBNe, Nat.reduceBNe, Nat.reduceDiv, Nat.reduceMod, ci0]
    refine kont_forF (G := Nat) [4, 5, 6, 7, 8, 17] (fun k => True) (fun k γ => [(20, dint k)]) (fun k γ => [⟨.one, 0, 4, 1, fun _ => [u64 0, u64 0, u64 0, u64 0]⟩, ⟨.one, 0, 4, 1, fun _ => [u64 (d0 x), u64 (d1 x), u64 0, u64 0]⟩, ⟨.one, 0, 4, 1, fun _ => [u64 (d0 y), u64 (d1 y), u64 0, u64 0]⟩, ⟨.one, 0, 4, 1, fun _ => [u64 (d0 (pmD x y (0 + k))), u64 (d1 (pmD x y (0 + k))), u64 (d2 (pmD x y (0 + k))), u64 (d3 (pmD x y (0 + k)))]⟩]) (2) (0) rfl (Weak.to 4 (by (simp only [go_sem, Nat.reduceAdd, Nat.reduceSub, Nat.reduceMul, Nat.reduceBEq, Nat.reduceLT, Nat.reduceLeDiff, Nat.reduceEqDiff, Int.reduceToNat, Int.reduceLE, Int.reduceLT, Int.reduceAdd, Int.reduceSub, Int.reduceNeg, Int.reduceBEq, Int.reduceBNe, Nat.reduceBNe, Nat.reduceDiv, Nat.reduceMod, Nat.add_zero]) <;> simp)) trivial ?_
    intro k γ hk _
    have hk' : k = 0 ∨ k = 1 ∨ k = 2 := by have : k ≤ 2 := hk; omega
    rcases hk' with rfl | rfl | rfl
    · obtain ⟨Z, hZ⟩ : ∃ Z, Z = S * 1 := ⟨_, rfl⟩
      have hp : IntKind.u64.wrap (((d0 x : Nat) : Int) * ((d0 y : Nat) : Int)) = ((S : Nat) : Int) := by rw [wu_mul' _ _ (by rw [← hS]; omega), hS]
      have f0 : d0 Z = S % 4294967296 := by rw [hZ]; unfold d0; omega
      have f1 : d1 Z = S / 4294967296 := by rw [hZ]; unfold d1; omega
      have f2 : d2 Z = 0 := by rw [hZ]; unfold d2; omega
      have f3 : d3 Z = 0 := by rw [hZ]; unfold d3; omega
      have e1 : pmD x y 0 + Z = pmD x y 1 := by have := p0; have := p1; omega
      have e2 : pmD x y 0 < 2 ^ 128 := by have := p0; omega
      have e3 : Z < 2 ^ 128 := by rw [hZ]; omega
      have td := tdivB S (by omega)
      refine kont_of_hx cx_ok hb 200 ?_
      simp only [go_sem, Nat.reduceAdd, Nat.reduceSub, Nat.reduceMul, Nat.reduceBEq, Nat.reduceLT, Nat.reduceLeDiff, Nat.reduceEqDiff, Int.reduceToNat, Int.reduceLE, Int.reduceLT, Int.reduceAdd, Int.reduceSub, Int.reduceNeg, Int.reduceBEq, Int.reduceBNe, Nat.reduceBNe, Nat.reduceDiv, Nat.reduceMod, ci0, Nat.reduceAdd]
      refine kont_hax cx_ok hb 200 mixed [(0, true), (1, true), (2, true), (3, true), (4, true), (5, true), (6, true), (7, true)] (by kernel_rfl) (by kernel_rfl) ?_
      simp only [go_sem, Nat.reduceAdd, Nat.reduceSub, Nat.reduceMul, Nat.reduceBEq, Nat.reduceLT, Nat.reduceLeDiff, Nat.reduceEqDiff, Int.reduceToNat, Int.reduceLE, Int.reduceLT, Int.reduceAdd, Int.reduceSub, Int.reduceNeg, Int.reduceBEq, Int.reduceBNe, Nat.reduceBNe, Nat.reduceDiv, Nat.reduceMod, hp, tmodB, td, wi0, wi1, Int.reduceAdd]
      refine ⟨by decide, by decide, ?_⟩
      refine kont_call hb fn121 rfl ?_ (rplus_ok (pmD x y 0) Z e2 e3) (Ret.flat rfl) rfl fun d h hR => ?_
      · simp only [go_sem, Nat.reduceAdd, Nat.reduceSub, Nat.reduceMul, Nat.reduceBEq, Nat.reduceLT, Nat.reduceLeDiff, Nat.reduceEqDiff, Int.reduceToNat, Int.reduceLE, Int.reduceLT, Int.reduceAdd, Int.reduceSub, Int.reduceNeg, Int.reduceBEq, Int.reduceBNe, Nat.reduceBNe, Nat.reduceDiv, Nat.reduceMod, f0, f1, f2, f3, ci0]
      obtain ⟨rfl, rfl⟩ := hR
      refine kont_of_hx cx_ok hb 200 ?_
      simp only [go_sem, Nat.reduceAdd, Nat.reduceSub, Nat.reduceMul, Nat.reduceBEq, Nat.reduceLT, Nat.reduceLeDiff, Nat.reduceEqDiff, Int.reduceToNat, Int.reduceLE, Int.reduceLT, Int.reduceAdd, Int.reduceSub, Int.reduceNeg, Int.reduceBEq, Int.reduceBNe, Nat.reduceBNe, Nat.reduceDiv, Nat.reduceMod, f0, f1, f2, f3, ci0]
      repeat (refine And.intro (by first | assumption | omega) ?_)
      refine ⟨_, Weak.to 4 (by (simp only [go_sem, Nat.reduceAdd, Nat.reduceSub, Nat.reduceMul, Nat.reduceBEq, Nat.reduceLT, Nat.reduceLeDiff, Nat.reduceEqDiff, Int.reduceToNat, Int.reduceLE, Int.reduceLT, Int.reduceAdd, Int.reduceSub, Int.reduceNeg, Int.reduceBEq, Int.reduceBNe, Nat.reduceBNe, Nat.reduceDiv, Nat.reduceMod, ci0, ci1, Int.reduceAdd, wi1, Nat.reduceAdd, e1]) <;> simp), ForS.mk (γ) (trivial)⟩
    · obtain ⟨Z, hZ⟩ : ∃ Z, Z = R * 4294967296 := ⟨_, rfl⟩
      have hp : IntKind.u64.wrap (((d0 x : Nat) : Int) * ((d1 y : Nat) : Int)) = ((R : Nat) : Int) := by rw [wu_mul' _ _ (by rw [← hR]; omega), hR]
      have f0 : d0 Z = 0 := by rw [hZ]; unfold d0; omega
      have f1 : d1 Z = R % 4294967296 := by rw [hZ]; unfold d1; omega
      have f2 : d2 Z = R / 4294967296 := by rw [hZ]; unfold d2; omega
      have f3 : d3 Z = 0 := by rw [hZ]; unfold d3; omega
      have e1 : pmD x y 1 + Z = pmD x y 2 := by have := p1; have := p2; omega
      have e2 : pmD x y 1 < 2 ^ 128 := by have := p1; omega
      have e3 : Z < 2 ^ 128 := by rw [hZ]; omega
      have td := tdivB R (by omega)
      refine kont_of_hx cx_ok hb 200 ?_
      simp only [go_sem, Nat.reduceAdd, Nat.reduceSub, Nat.reduceMul, Nat.reduceBEq, Nat.reduceLT, Nat.reduceLeDiff, Nat.reduceEqDiff, Int.reduceToNat, Int.reduceLE, Int.reduceLT, Int.reduceAdd, Int.reduceSub, Int.reduceNeg, Int.reduceBEq, Int.reduceBNe, Nat.reduceBNe, Nat.reduceDiv, Nat.reduceMod, ci1, Nat.reduceAdd]
      refine kont_hax cx_ok hb 200 mixed [(0, true), (1, true), (2, true), (3, true), (4, true), (5, true), (6, true), (7, true)] (by kernel_rfl) (by kernel_rfl) ?_
      simp only [go_sem, Nat.reduceAdd, Nat.reduceSub, Nat.reduceMul, Nat.reduceBEq, Nat.reduceLT, Nat.reduceLeDiff, Nat.reduceEqDiff, Int.reduceToNat, Int.reduceLE, Int.reduceLT, Int.reduceAdd, Int.reduceSub, Int.reduceNeg, Int.reduceBEq, Int.reduceBNe, Nat.reduceBNe, Nat.reduceDiv, Nat.reduceMod, hp, tmodB, td, wi1, wi2, Int.reduceAdd]
      refine ⟨by decide, by decide, ?_⟩
      refine kont_call hb fn121 rfl ?_ (rplus_ok (pmD x y 1) Z e2 e3) (Ret.flat rfl) rfl fun d h hR => ?_
      · simp only [go_sem, Nat.reduceAdd, Nat.reduceSub, Nat.reduceMul, Nat.reduceBEq, Nat.reduceLT, Nat.reduceLeDiff, Nat.reduceEqDiff, Int.reduceToNat, Int.reduceLE, Int.reduceLT, Int.reduceAdd, Int.reduceSub, Int.reduceNeg, Int.reduceBEq, Int.reduceBNe, Nat.reduceBNe, Nat.reduceDiv, Nat.reduceMod, f0, f1, f2, f3, ci0]
      obtain ⟨rfl, rfl⟩ := hR
      refine kont_of_hx cx_ok hb 200 ?_
      simp only [go_sem, Nat.reduceAdd, Nat.reduceSub, Nat.reduceMul, Nat.reduceBEq, Nat.reduceLT, Nat.reduceLeDiff, Nat.reduceEqDiff, Int.reduceToNat, Int.reduceLE, Int.reduceLT, Int.reduceAdd, Int.reduceSub, Int.reduceNeg, Int.reduceBEq, Int.reduceBNe, Nat.reduceBNe, Nat.reduceDiv, Nat.reduceMod, f0, f1, f2, f3, ci0]
      repeat (refine And.intro (by first | assumption | omega) ?_)
      refine ⟨_, Weak.to 4 (by (simp only [go_sem, Nat.reduceAdd, Nat.reduceSub, Nat.reduceMul, Nat.reduceBEq, Nat.reduceLT, Nat.reduceLeDiff, Nat.reduceEqDiff, Int.reduceToNat, Int.reduceLE, Int.reduceLT, Int.reduceAdd, Int.reduceSub, Int.reduceNeg, Int.reduceBEq, Int.reduceBNe, Nat.reduceBNe, Nat.reduceDiv, Nat.reduceMod, ci1, ci2, Int.reduceAdd, wi2, Nat.reduceAdd, e1]) <;> simp), ForS.mk (γ) (trivial)⟩
    · refine kont_of_hx cx_ok hb 200 ?_
      simp only [go_sem, Nat.reduceAdd, Nat.reduceSub, Nat.reduceMul, Nat.reduceBEq, Nat.reduceLT, Nat.reduceLeDiff, Nat.reduceEqDiff, Int.reduceToNat, Int.reduceLE, Int.reduceLT, Int.reduceAdd, Int.reduceSub, Int.reduceNeg, Int.reduceBEq, Int.reduceBNe, Nat.reduceBNe, Nat.reduceDiv, Nat.reduceMod, ci2, Nat.reduceAdd]
      refine kont_of_hx cx_ok hb 200 ?_
      simp only [go_sem, Nat.reduceAdd, Nat.reduceSub, Nat.reduceMul, Nat.reduceBEq, Nat.reduceLT, Nat.reduceLeDiff, Nat.reduceEqDiff, Int.reduceToNat, Int.reduceLE, Int.reduceLT, Int.reduceAdd, Int.reduceSub, Int.reduceNeg, Int.reduceBEq, Int.reduceBNe, Nat.reduceBNe, Nat.reduceDiv, Nat.reduceMod]
      repeat (refine And.intro (by first | assumption | omega) ?_)
      refine ⟨_, Weak.to 4 (by (simp only [go_sem, Nat.reduceAdd, Nat.reduceSub, Nat.reduceMul, Nat.reduceBEq, Nat.reduceLT, Nat.reduceLeDiff, Nat.reduceEqDiff, Int.reduceToNat, Int.reduceLE, Int.reduceLT, Int.reduceAdd, Int.reduceSub, Int.reduceNeg, Int.reduceBEq, Int.reduceBNe, Nat.reduceBNe, Nat.reduceDiv, Nat.reduceMod, ci0, ci1, Int.reduceAdd, wi1, Nat.reduceAdd, Nat.reduceMul]) <;> simp), ForS.mk (γ) (trivial)⟩
  · refine kont_of_hx cx_ok hb 200 ?_
    simp only [go_sem, Nat.reduceAdd, Nat.reduceSub, Nat.reduceMul, Nat.reduceBEq, Nat.reduceLT, Nat.reduceLeDiff, Nat.reduceEqDiff, Int.reduceToNat, Int.reduceLE, Int.reduceLT, Int.reduceAdd, Int.reduceSub, Int.reduceNeg, Int.reduceBEq, Int.reduceBNe, Nat.reduceBNe, Nat.reduceDiv, Nat.reduceMod, ci1]
    refine kont_forF (G := Nat) [4, 5, 6, 7, 8, 17] (fun k => True) (fun k γ => [(20, dint k)]) (fun k γ => [⟨.one, 0, 4, 1, fun _ => [u64 0, u64 0, u64 0, u64 0]⟩, ⟨.one, 0, 4, 1, fun _ => [u64 (d0 x), u64 (d1 x), u64 0, u64 0]⟩, ⟨.one, 0, 4, 1, fun _ => [u64 (d0 y), u64 (d1 y), u64 0, u64 0]⟩, ⟨.one, 0, 4, 1, fun _ => [u64 (d0 (pmD x y (2 + k))), u64 (d1 (pmD x y (2 + k))), u64 (d2 (pmD x y (2 + k))), u64 (d3 (pmD x y (2 + k)))]⟩]) (2) (0) rfl (Weak.to 4 (by (simp only [go_sem, Nat.reduceAdd, Nat.reduceSub, Nat.reduceMul, Nat.reduceBEq, Nat.reduceLT, Nat.reduceLeDiff, Nat.reduceEqDiff, Int.reduceToNat, Int.reduceLE, Int.reduceLT, Int.reduceAdd, Int.reduceSub, Int.reduceNeg, Int.reduceBEq, Int.reduceBNe, Nat.reduceBNe, Nat.reduceDiv, Nat.reduceMod, Nat.add_zero]) <;> simp)) trivial ?_
    intro k γ hk _
    have hk' : k = 0 ∨ k = 1 ∨ k = 2 := by have : k ≤ 2 := hk; omega
    rcases hk' with rfl | rfl | rfl
    · obtain ⟨Z, hZ⟩ : ∃ Z, Z = Q * 4294967296 := ⟨_, rfl⟩
      have hp : IntKind.u64.wrap (((d1 x : Nat) : Int) * ((d0 y : Nat) : Int)) = ((Q : Nat) : Int) := by rw [wu_mul' _ _ (by rw [← hQ]; omega), hQ]
      have f0 : d0 Z = 0 := by rw [hZ]; unfold d0; omega
      have f1 : d1 Z = Q % 4294967296 := by rw [hZ]; unfold d1; omega
      have f2 : d2 Z = Q / 4294967296 := by rw [hZ]; unfold d2; omega
      have f3 : d3 Z = 0 := by rw [hZ]; unfold d3; omega
      have e1 : pmD x y 2 + Z = pmD x y 3 := by have := p2; have := p3; omega
      have e2 : pmD x y 2 < 2 ^ 128 := by have := p2; omega
      have e3 : Z < 2 ^ 128 := by rw [hZ]; omega
      have td := tdivB Q (by omega)
      refine kont_of_hx cx_ok hb 200 ?_
      simp only [go_sem, Nat.reduceAdd, Nat.reduceSub, Nat.reduceMul, Nat.reduceBEq, Nat.reduceLT, Nat.reduceLeDiff, Nat.reduceEqDiff, Int.reduceToNat, Int.reduceLE, Int.reduceLT, Int.reduceAdd, Int.reduceSub, Int.reduceNeg, Int.reduceBEq, Int.reduceBNe, Nat.reduceBNe, Nat.reduceDiv, Nat.reduceMod, ci0, Nat.reduceAdd]
      refine kont_hax cx_ok hb 200 mixed [(0, true), (1, true), (2, true), (3, true), (4, true), (5, true), (6, true), (7, true)] (by kernel_rfl) (by kernel_rfl) ?_
      simp only [go_sem, Nat.reduceAdd, Nat.reduceSub, Nat.reduceMul, Nat.reduceBEq, Nat.reduceLT, Nat.reduceLeDiff, Nat.reduceEqDiff, Int.reduceToNat, Int.reduceLE, Int.reduceLT, Int.reduceAdd, Int.reduceSub, Int.reduceNeg, Int.reduceBEq, Int.reduceBNe, Nat.reduceBNe, Nat.reduceDiv, Nat.reduceMod, hp, tmodB, td, wi1, wi2, Int.reduceAdd]
      refine ⟨by decide, by decide, ?_⟩
      refine kont_call hb fn121 rfl ?_ (rplus_ok (pmD x y 2) Z e2 e3) (Ret.flat rfl) rfl fun d h hR => ?_
      · simp only [go_sem, Nat.reduceAdd, Nat.reduceSub, Nat.reduceMul, Nat.reduceBEq, Nat.reduceLT, Nat.reduceLeDiff, Nat.reduceEqDiff, Int.reduceToNat, Int.reduceLE, Int.reduceLT, Int.reduceAdd, Int.reduceSub, Int.reduceNeg, Int.reduceBEq, Int.reduceBNe, Nat.reduceBNe, Nat.reduceDiv, Nat.reduceMod, f0, f1, f2, f3, ci0]
      obtain ⟨rfl, rfl⟩ := hR
      refine kont_of_hx cx_ok hb 200 ?_
      simp only [go_sem, Nat.reduceAdd, Nat.reduceSub, Nat.reduceMul, Nat.reduceBEq, Nat.reduceLT, Nat.reduceLeDiff, Nat.reduceEqDiff, Int.reduceToNat, Int.reduceLE, Int.reduceLT, Int.reduceAdd, Int.reduceSub, Int.reduceNeg, Int.reduceBEq, Int.reduceBNe, Nat.reduceBNe, Nat.reduceDiv, Nat.reduceMod, f0, f1, f2, f3, ci0]
      repeat (refine And.intro (by first | assumption | omega) ?_)
      refine ⟨_, Weak.to 4 (by (simp only [go_sem, Nat.reduceAdd, Nat.reduceSub, Nat.reduceMul, Nat.reduceBEq, Nat.reduceLT, Nat.reduceLeDiff, Nat.reduceEqDiff, Int.reduceToNat, Int.reduceLE, Int.reduceLT, Int.reduceAdd, Int.reduceSub, Int.reduceNeg, Int.reduceBEq, Int.reduceBNe, Nat.reduceBNe, Nat.reduceDiv, Nat.reduceMod, ci0, ci1, Int.reduceAdd, wi1, Nat.reduceAdd, e1]) <;> simp), ForS.mk (γ) (trivial)⟩
    · obtain ⟨Z, hZ⟩ : ∃ Z, Z = P * 18446744073709551616 := ⟨_, rfl⟩
      have hp : IntKind.u64.wrap (((d1 x : Nat) : Int) * ((d1 y : Nat) : Int)) = ((P : Nat) : Int) := by rw [wu_mul' _ _ (by rw [← hP]; omega), hP]
      have f0 : d0 Z = 0 := by rw [hZ]; unfold d0; omega
      have f1 : d1 Z = 0 := by rw [hZ]; unfold d1; omega
      have f2 : d2 Z = P % 4294967296 := by rw [hZ]; unfold d2; omega
      have f3 : d3 Z = P / 4294967296 := by rw [hZ]; unfold d3; omega
      have e1 : pmD x y 3 + Z = pmD x y 4 := by have := p3; have := p4; omega
      have e2 : pmD x y 3 < 2 ^ 128 := by have := p3; omega
      have e3 : Z < 2 ^ 128 := by rw [hZ]; omega
      have td := tdivB P (by omega)
      refine kont_of_hx cx_ok hb 200 ?_
      simp only [go_sem, Nat.reduceAdd, Nat.reduceSub, Nat.reduceMul, Nat.reduceBEq, Nat.reduceLT, Nat.reduceLeDiff, Nat.reduceEqDiff, Int.reduceToNat, Int.reduceLE, Int.reduceLT, Int.reduceAdd, Int.reduceSub, Int.reduceNeg, Int.reduceBEq, Int.reduceBNe, Nat.reduceBNe, Nat.reduceDiv, Nat.reduceMod, ci1, Nat.reduceAdd]
      refine kont_hax cx_ok hb 200 mixed [(0, true), (1, true), (2, true), (3, true), (4, true), (5, true), (6, true), (7, true)] (by kernel_rfl) (by kernel_rfl) ?_
      simp only [go_sem, Nat.reduceAdd, Nat.reduceSub, Nat.reduceMul, Nat.reduceBEq, Nat.reduceLT, Nat.reduceLeDiff, Nat.reduceEqDiff, Int.reduceToNat, Int.reduceLE, Int.reduceLT, Int.reduceAdd, Int.reduceSub, Int.reduceNeg, Int.reduceBEq, Int.reduceBNe, Nat.reduceBNe, Nat.reduceDiv, Nat.reduceMod, hp, tmodB, td, wi2, wi3, Int.reduceAdd]
      refine ⟨by decide, by decide, ?_⟩
      refine kont_call hb fn121 rfl ?_ (rplus_ok (pmD x y 3) Z e2 e3) (Ret.flat rfl) rfl fun d h hR => ?_
      · simp only [go_sem, Nat.reduceAdd, Nat.reduceSub, Nat.reduceMul, Nat.reduceBEq, Nat.reduceLT, Nat.reduceLeDiff, Nat.reduceEqDiff, Int.reduceToNat, Int.reduceLE, Int.reduceLT, Int.reduceAdd, Int.reduceSub, Int.reduceNeg, Int.reduceBEq, Int.reduceBNe, Nat.reduceBNe, Nat.reduceDiv, Nat.reduceMod, f0, f1, f2, f3, ci0]
      obtain ⟨rfl, rfl⟩ := hR
      refine kont_of_hx cx_ok hb 200 ?_
      simp only [go_sem, Nat.reduceAdd, Nat.reduceSub, Nat.reduceMul, Nat.reduceBEq, Nat.reduceLT, Nat.reduceLeDiff, Nat.reduceEqDiff, Int.reduceToNat, Int.reduceLE, Int.reduceLT, Int.reduceAdd, Int.reduceSub, Int.reduceNeg, Int.reduceBEq, Int.reduceBNe, Nat.reduceBNe, Nat.reduceDiv, Nat.reduceMod, f0, f1, f2, f3, ci0]
      repeat (refine And.intro (by first | assumption | omega) ?_)
      refine ⟨_, Weak.to 4 (by (simp only [go_sem, Nat.reduceAdd, Nat.reduceSub, Nat.reduceMul, Nat.reduceBEq, Nat.reduceLT, Nat.reduceLeDiff, Nat.reduceEqDiff, Int.reduceToNat, Int.reduceLE, Int.reduceLT, Int.reduceAdd, Int.reduceSub, Int.reduceNeg, Int.reduceBEq, Int.reduceBNe, Nat.reduceBNe, Nat.reduceDiv, Nat.reduceMod, ci1, ci2, Int.reduceAdd, wi2, Nat.reduceAdd, e1]) <;> simp), ForS.mk (γ) (trivial)⟩
    · refine kont_of_hx cx_ok hb 200 ?_
      simp only [go_sem, Nat.reduceAdd, Nat.reduceSub, Nat.reduceMul, Nat.reduceBEq, Nat.reduceLT, Nat.reduceLeDiff, Nat.reduceEqDiff, Int.reduceToNat, Int.reduceLE, Int.reduceLT, Int.reduceAdd, Int.reduceSub, Int.reduceNeg, Int.reduceBEq, Int.reduceBNe, Nat.reduceBNe, Nat.reduceDiv, Nat.reduceMod, ci2, Nat.reduceAdd]
      refine kont_of_hx cx_ok hb 200 ?_
      simp only [go_sem, Nat.reduceAdd, Nat.reduceSub, Nat.reduceMul, Nat.reduceBEq, Nat.reduceLT, Nat.reduceLeDiff, Nat.reduceEqDiff, Int.reduceToNat, Int.reduceLE, Int.reduceLT, Int.reduceAdd, Int.reduceSub, Int.reduceNeg, Int.reduceBEq, Int.reduceBNe, Nat.reduceBNe, Nat.reduceDiv, Nat.reduceMod]
      repeat (refine And.intro (by first | assumption | omega) ?_)
      refine ⟨_, Weak.to 4 (by (simp only [go_sem, Nat.reduceAdd, Nat.reduceSub, Nat.reduceMul, Nat.reduceBEq, Nat.reduceLT, Nat.reduceLeDiff, Nat.reduceEqDiff, Int.reduceToNat, Int.reduceLE, Int.reduceLT, Int.reduceAdd, Int.reduceSub, Int.reduceNeg, Int.reduceBEq, Int.reduceBNe, Nat.reduceBNe, Nat.reduceDiv, Nat.reduceMod, ci1, ci2, Int.reduceAdd, wi2, Nat.reduceAdd, Nat.reduceMul]) <;> simp), ForS.mk (γ) (trivial)⟩
  · refine kont_of_hx cx_ok hb 200 ?_
    simp only [go_sem, Nat.reduceAdd, Nat.reduceSub, Nat.reduceMul, Nat.reduceBEq, Nat.reduceLT, Nat.reduceLeDiff, Nat.reduceEqDiff, Int.reduceToNat, Int.reduceLE, Int.reduceLT, Int.reduceAdd, Int.reduceSub, Int.reduceNeg, Int.reduceBEq, Int.reduceBNe, Nat.reduceBNe, Nat.reduceDiv, Nat.reduceMod, ci2, Nat.reduceMul, hend]
    refine kont_of_hx cx_ok hb 200 ?_
    simp only [go_sem, Nat.reduceAdd, Nat.reduceSub, Nat.reduceMul, Nat.reduceBEq, Nat.reduceLT, Nat.reduceLeDiff, Nat.reduceEqDiff, Int.reduceToNat, Int.reduceLE, Int.reduceLT, Int.reduceAdd, Int.reduceSub, Int.reduceNeg, Int.reduceBEq, Int.reduceBNe, Nat.reduceBNe, Nat.reduceDiv, Nat.reduceMod]
end Go.Fg.X
