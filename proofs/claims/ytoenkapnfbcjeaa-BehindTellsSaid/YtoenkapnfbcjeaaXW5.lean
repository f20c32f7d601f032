/- Walks of the functions that the statement reaches. No conditions: contracts and laws. -/
import Derived.Test.YtoenkapnfbcjeaaXW4
namespace Go.Fg.X
open Go.Proofs Go.Fg
set_option maxRecDepth 100000
set_option maxHeartbeats 4000000
set_option linter.unusedSimpArgs false
set_option linter.unusedVariables false
theorem rtwice_ok (a b : Nat) (ha : a < 2 ^ 127) (hb : b < 18446744073709551616) : AFn Try.prog 166 [dg a, u64 b] (Ret (dg (a + a + b))) := by
  refine AFn_hxk 0 cx_ok 200 Try.func166 rfl Try.ntmps166 Try.results166 rfl fun base w hb => ?_
  simp only [go_sem, Nat.reduceAdd, Nat.reduceSub, Nat.reduceMul, Nat.reduceBEq, Nat.reduceLT, Nat.reduceLeDiff, Nat.reduceEqDiff, Int.reduceToNat, Int.reduceLE, Int.reduceLT, Int.reduceAdd, Int.reduceSub, Int.reduceNeg, Int.reduceBEq, Int.reduceBNe, Nat.reduceBNe, Nat.reduceDiv, Nat.reduceMod]
  refine kont_call hb fn121 rfl ?_ (rplus_ok a a (by omega) (by omega)) (Ret.flat rfl) rfl fun d h hR => ?_
  · simp only [go_sem, Nat.reduceAdd, Nat.reduceSub, Nat.reduceMul, Nat.reduceBEq, Nat.reduceLT, Nat.reduceLeDiff, Nat.reduceEqDiff, Int.reduceToNat, Int.reduceLE, Int.reduceLT, Int.reduceAdd, Int.reduceSub, Int.reduceNeg, Int.reduceBEq, Int.reduceBNe, Nat.reduceBNe, Nat.reduceDiv, Nat.reduceMod]
  obtain ⟨rfl, rfl⟩ := hR
  refine kont_of_hx cx_ok hb 200 ?_
  simp only [go_sem, Nat.reduceAdd, Nat.reduceSub, Nat.reduceMul, Nat.reduceBEq, Nat.reduceLT, Nat.reduceLeDiff, Nat.reduceEqDiff, Int.reduceToNat, Int.reduceLE, Int.reduceLT, Int.reduceAdd, Int.reduceSub, Int.reduceNeg, Int.reduceBEq, Int.reduceBNe, Nat.reduceBNe, Nat.reduceDiv, Nat.reduceMod]
  refine kont_call hb fn120 rfl ?_ (rof_ok b ‹_›) (Ret.flat rfl) rfl fun d h hR => ?_
  · simp only [go_sem, Nat.reduceAdd, Nat.reduceSub, Nat.reduceMul, Nat.reduceBEq, Nat.reduceLT, Nat.reduceLeDiff, Nat.reduceEqDiff, Int.reduceToNat, Int.reduceLE, Int.reduceLT, Int.reduceAdd, Int.reduceSub, Int.reduceNeg, Int.reduceBEq, Int.reduceBNe, Nat.reduceBNe, Nat.reduceDiv, Nat.reduceMod]
  obtain ⟨rfl, rfl⟩ := hR
  refine kont_of_hx cx_ok hb 200 ?_
  simp only [go_sem, Nat.reduceAdd, Nat.reduceSub, Nat.reduceMul, Nat.reduceBEq, Nat.reduceLT, Nat.reduceLeDiff, Nat.reduceEqDiff, Int.reduceToNat, Int.reduceLE, Int.reduceLT, Int.reduceAdd, Int.reduceSub, Int.reduceNeg, Int.reduceBEq, Int.reduceBNe, Nat.reduceBNe, Nat.reduceDiv, Nat.reduceMod]
  refine kont_call hb fn121 rfl ?_ (rplus_ok (a + a) b (by omega) (by omega)) (Ret.flat rfl) rfl fun d h hR => ?_
  · simp only [go_sem, Nat.reduceAdd, Nat.reduceSub, Nat.reduceMul, Nat.reduceBEq, Nat.reduceLT, Nat.reduceLeDiff, Nat.reduceEqDiff, Int.reduceToNat, Int.reduceLE, Int.reduceLT, Int.reduceAdd, Int.reduceSub, Int.reduceNeg, Int.reduceBEq, Int.reduceBNe, Nat.reduceBNe, Nat.reduceDiv, Nat.reduceMod]
  obtain ⟨rfl, rfl⟩ := hR
  refine kont_of_hx cx_ok hb 200 ?_
  simp only [go_sem, Nat.reduceAdd, Nat.reduceSub, Nat.reduceMul, Nat.reduceBEq, Nat.reduceLT, Nat.reduceLeDiff, Nat.reduceEqDiff, Int.reduceToNat, Int.reduceLE, Int.reduceLT, Int.reduceAdd, Int.reduceSub, Int.reduceNeg, Int.reduceBEq, Int.reduceBNe, Nat.reduceBNe, Nat.reduceDiv, Nat.reduceMod]
theorem half (n : Nat) (h : n < 18446744073709551616) : IntKind.u64.wrap (((n : Int)).tdiv 2) = ((n / 2 : Nat) : Int) := by
  rw [show (2 : Int) = ((2 : Nat) : Int) from rfl, ← Int.ofNat_tdiv, IntKind.wrap_u64]; omega
theorem tmod2 (n : Nat) : ((n : Int)).tmod 2 = ((n % 2 : Nat) : Int) := by
  rw [show (2 : Int) = ((2 : Nat) : Int) from rfl, ← Int.ofNat_tmod]
theorem tmod32 (n : Nat) : ((n : Int)).tmod 32 = ((n % 32 : Nat) : Int) := by
  rw [show (32 : Int) = ((32 : Nat) : Int) from rfl, ← Int.ofNat_tmod]
theorem tdiv32 (n : Nat) (h : n < 128) : IntKind.i64.wrap (((n : Int)).tdiv 32) = ((n / 32 : Nat) : Int) := by
  rw [show (32 : Int) = ((32 : Nat) : Int) from rfl, ← Int.ofNat_tdiv, wrap64 (by omega) (by omega)]
theorem bit_low (x r : Nat) (hr : r < 32) : x % 4294967296 / 2 ^ r % 2 = x / 2 ^ r % 2 := by
  have e : (4294967296 : Nat) = 2 ^ r * 2 ^ (32 - r) := by rw [← Nat.pow_add, show r + (32 - r) = 32 by omega]
  rw [e, Nat.mod_mul_right_div_self, Nat.mod_mod_of_dvd]
  exact Nat.dvd_of_pow_dvd (show 1 ≤ 32 - r by omega) (Nat.dvd_refl _)
theorem bit_of (a q r d : Nat) (D : Nat) (hr : r < 32) (hD : D = 2 ^ (32 * q)) (hd : d = a / D % 4294967296) : d / 2 ^ r % 2 = a / 2 ^ (32 * q + r) % 2 := by
  rw [hd, bit_low _ _ hr, hD, Nat.div_div_eq_div_mul, ← Nat.pow_add]
theorem rbit_ok (a i : Nat) (hi : i < 128) : AFn Try.prog 167 [dg a, dint i] (Ret (u64 (a / 2 ^ i % 2))) := by
  obtain ⟨q, r, d, hq, hr, hd, hbit⟩ : ∃ q r d : Nat, q = i / 32 ∧ r = i % 32 ∧ (d < 4294967296 ∧ ((q = 0 ∧ d = d0 a) ∨ (q = 1 ∧ d = d1 a) ∨ (q = 2 ∧ d = d2 a) ∨ (q = 3 ∧ d = d3 a))) ∧ d / 2 ^ r % 2 = a / 2 ^ i % 2 := by
    have hq : i / 32 = 0 ∨ i / 32 = 1 ∨ i / 32 = 2 ∨ i / 32 = 3 := by omega
    rcases hq with h | h | h | h
    · refine ⟨_, _, d0 a, rfl, rfl, ⟨d0_lt a, .inl ⟨h, rfl⟩⟩, ?_⟩
      rw [bit_of a 0 (i % 32) (d0 a) 1 (by omega) rfl (by simp [d0])]; congr 3; omega
    · refine ⟨_, _, d1 a, rfl, rfl, ⟨d1_lt a, .inr (.inl ⟨h, rfl⟩)⟩, ?_⟩
      rw [bit_of a 1 (i % 32) (d1 a) _ (by omega) rfl rfl]; congr 3; omega
    · refine ⟨_, _, d2 a, rfl, rfl, ⟨d2_lt a, .inr (.inr (.inl ⟨h, rfl⟩))⟩, ?_⟩
      rw [bit_of a 2 (i % 32) (d2 a) _ (by omega) rfl rfl]; congr 3; omega
    · refine ⟨_, _, d3 a, rfl, rfl, ⟨d3_lt a, .inr (.inr (.inr ⟨h, rfl⟩))⟩, ?_⟩
      rw [bit_of a 3 (i % 32) (d3 a) _ (by omega) rfl rfl]; congr 3; omega
  refine AFn_hxk 0 cx_ok 200 Try.func167 rfl Try.ntmps167 Try.results167 rfl fun base w hb => ?_
  simp only [go_sem, Nat.reduceAdd, Nat.reduceSub, Nat.reduceMul, Nat.reduceBEq, Nat.reduceLT, Nat.reduceLeDiff, Nat.reduceEqDiff, Int.reduceToNat, Int.reduceLE, Int.reduceLT, Int.reduceAdd, Int.reduceSub, Int.reduceNeg, Int.reduceBEq, Int.reduceBNe, Nat.reduceBNe, Nat.reduceDiv, Nat.reduceMod]
  have t1 := tdiv32 i hi
  have t2 := tmod32 i
  rw [← hq] at t1
  rw [← hr] at t2
  have hv : (List.drop (((q : Nat) : Int).toNat * 1) [D.raw (Value.int IntKind.u64 ↑(d0 a)), D.raw (Value.int IntKind.u64 ↑(d1 a)), D.raw (Value.int IntKind.u64 ↑(d2 a)), D.raw (Value.int IntKind.u64 ↑(d3 a))]).getD 0 D.undef = D.raw (Value.int IntKind.u64 (d : Int)) := by
    rcases hd.2 with ⟨rfl, rfl⟩ | ⟨rfl, rfl⟩ | ⟨rfl, rfl⟩ | ⟨rfl, rfl⟩ <;> rfl
  simp only [t1, t2, hv]
  refine ⟨by decide, ⟨by omega, by omega⟩, by omega, by decide, ?_⟩
  have i1 : d / 2 ^ 0 = d := by rw [Nat.pow_zero, Nat.div_one]
  refine kont_forF (G := Nat) [11] (fun k => True) (fun k γ => [(5, u64 (d / 2 ^ k)), (12, dint k)]) (fun k γ => []) (r) (0) rfl (Weak.to 0 (by (simp only [go_sem, Nat.reduceAdd, Nat.reduceSub, Nat.reduceMul, Nat.reduceBEq, Nat.reduceLT, Nat.reduceLeDiff, Nat.reduceEqDiff, Int.reduceToNat, Int.reduceLE, Int.reduceLT, Int.reduceAdd, Int.reduceSub, Int.reduceNeg, Int.reduceBEq, Int.reduceBNe, Nat.reduceBNe, Nat.reduceDiv, Nat.reduceMod, i1]) <;> simp)) trivial ?_
  intro k γ hk _
  refine kont_of_hx cx_ok hb 200 ?_
  simp only [go_sem, Nat.reduceAdd, Nat.reduceSub, Nat.reduceMul, Nat.reduceBEq, Nat.reduceLT, Nat.reduceLeDiff, Nat.reduceEqDiff, Int.reduceToNat, Int.reduceLE, Int.reduceLT, Int.reduceAdd, Int.reduceSub, Int.reduceNeg, Int.reduceBEq, Int.reduceBNe, Nat.reduceBNe, Nat.reduceDiv, Nat.reduceMod]
  have hwr := wrap_succ (show k < 4611686018427387904 by omega)
  have hd1 := hd.1
  have hle : d / 2 ^ k ≤ d := Nat.div_le_self _ _
  have hh := half (d / 2 ^ k) (by omega)
  rw [Nat.div_div_eq_div_mul, ← Nat.pow_succ] at hh
  first | refine hite_lt hk (fun hk1 => ?_) (fun hk1 => ?_) | refine hite_ltI hk (fun hk1 => ?_) (fun hk1 => ?_)
  · simp only [go_sem, Nat.reduceAdd, Nat.reduceSub, Nat.reduceMul, Nat.reduceBEq, Nat.reduceLT, Nat.reduceLeDiff, Nat.reduceEqDiff, Int.reduceToNat, Int.reduceLE, Int.reduceLT, Int.reduceAdd, Int.reduceSub, Int.reduceNeg, Int.reduceBEq, Int.reduceBNe, Nat.reduceBNe, Nat.reduceDiv, Nat.reduceMod, hk1, decide_true, hh]
    repeat (refine And.intro (by first | assumption | omega) ?_)
    refine ⟨_, Weak.to 0 (by (simp only [go_sem, Nat.reduceAdd, Nat.reduceSub, Nat.reduceMul, Nat.reduceBEq, Nat.reduceLT, Nat.reduceLeDiff, Nat.reduceEqDiff, Int.reduceToNat, Int.reduceLE, Int.reduceLT, Int.reduceAdd, Int.reduceSub, Int.reduceNeg, Int.reduceBEq, Int.reduceBNe, Nat.reduceBNe, Nat.reduceDiv, Nat.reduceMod, hwr, hh]) <;> simp), ForS.mk (γ) (trivial)⟩
  · simp only [go_sem, Nat.reduceAdd, Nat.reduceSub, Nat.reduceMul, Nat.reduceBEq, Nat.reduceLT, Nat.reduceLeDiff, Nat.reduceEqDiff, Int.reduceToNat, Int.reduceLE, Int.reduceLT, Int.reduceAdd, Int.reduceSub, Int.reduceNeg, Int.reduceBEq, Int.reduceBNe, Nat.reduceBNe, Nat.reduceDiv, Nat.reduceMod, hk1, Nat.lt_irrefl, decide_false]
    refine kont_of_hx cx_ok hb 200 ?_
    simp only [go_sem, Nat.reduceAdd, Nat.reduceSub, Nat.reduceMul, Nat.reduceBEq, Nat.reduceLT, Nat.reduceLeDiff, Nat.reduceEqDiff, Int.reduceToNat, Int.reduceLE, Int.reduceLT, Int.reduceAdd, Int.reduceSub, Int.reduceNeg, Int.reduceBEq, Int.reduceBNe, Nat.reduceBNe, Nat.reduceDiv, Nat.reduceMod, tmod2]
    rw [← hbit]
    exact ⟨by decide, rfl⟩
end Go.Fg.X
