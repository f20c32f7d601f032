/- Walks of the functions that the statement reaches. No conditions: contracts and laws. -/
import Derived.Test.YtoenkapnfbcjeaaXW3
namespace Go.Fg.X
open Go.Proofs Go.Fg
set_option maxRecDepth 100000
set_option maxHeartbeats 4000000
set_option linter.unusedSimpArgs false
set_option linter.unusedVariables false
def outD (n : Nat) : Nat → List D
  | 0 => [u64 0, u64 0, u64 0, u64 0]
  | 1 => [u64 (d0 n), u64 0, u64 0, u64 0]
  | 2 => [u64 (d0 n), u64 (d1 n), u64 0, u64 0]
  | 3 => [u64 (d0 n), u64 (d1 n), u64 (d2 n), u64 0]
  | _ => [u64 (d0 n), u64 (d1 n), u64 (d2 n), u64 (d3 n)]
def cyD (a b : Nat) : Nat → Nat
  | 0 => 0
  | 1 => (a % 4294967296 + b % 4294967296) / 4294967296
  | 2 => (a % 18446744073709551616 + b % 18446744073709551616) / 18446744073709551616
  | 3 => (a % 79228162514264337593543950336 + b % 79228162514264337593543950336) / 79228162514264337593543950336
  | _ => (a + b) / 340282366920938463463374607431768211456
theorem cyD_le (a b : Nat) (ha : a < 2 ^ 128) (hb : b < 2 ^ 128) : ∀ k, cyD a b k ≤ 1
  | 0 => Nat.zero_le _
  | 1 => by simp only [cyD]; omega
  | 2 => by simp only [cyD]; omega
  | 3 => by simp only [cyD]; omega
  | _ + 4 => by simp only [cyD]; omega
theorem add_digit (x y c : Nat) (hx : x < 4294967296) (hy : y < 4294967296) (hc : c ≤ 1) : IntKind.u64.wrap (IntKind.u64.wrap ((x : Int) + (y : Int)) + (c : Int)) = ((x + y + c : Nat) : Int) := by
  rw [wu_add, wu_add]; congr 1; omega
theorem radd_ok (a b : Nat) (ha : a < 2 ^ 128) (hb : b < 2 ^ 128) : AFn Try.prog 157 [dg a, dg b] (Ret (.tup [dg (a + b), u64 ((a + b) / 340282366920938463463374607431768211456)])) := by
  refine AFn_hxk 0 cx_ok 200 Try.func157 rfl Try.ntmps157 Try.results157 rfl fun base w hb => ?_
  simp only [go_sem, Nat.reduceAdd, Nat.reduceSub, Nat.reduceMul, Nat.reduceBEq, Nat.reduceLT, Nat.reduceLeDiff, Nat.reduceEqDiff, Int.reduceToNat, Int.reduceLE, Int.reduceLT, Int.reduceAdd, Int.reduceSub, Int.reduceNeg, Int.reduceBEq, Int.reduceBNe, Nat.reduceBNe, Nat.reduceDiv, Nat.reduceMod]
  refine kont_forF (G := Nat) [2, 3, 4, 6] (fun k => True) (fun k γ => [(7, u64 (cyD a b k)), (11, dint k)]) (fun k γ => [⟨.one, 0, 4, 1, fun _ => [u64 (d0 a), u64 (d1 a), u64 (d2 a), u64 (d3 a)]⟩, ⟨.one, 0, 4, 1, fun _ => [u64 (d0 b), u64 (d1 b), u64 (d2 b), u64 (d3 b)]⟩, ⟨.one, 0, 4, 1, fun _ => [u64 0, u64 0, u64 0, u64 0]⟩, ⟨.one, 0, 4, 1, fun _ => outD (a + b) k⟩]) (4) (0) rfl (Weak.to 4 (by (simp only [go_sem, Nat.reduceAdd, Nat.reduceSub, Nat.reduceMul, Nat.reduceBEq, Nat.reduceLT, Nat.reduceLeDiff, Nat.reduceEqDiff, Int.reduceToNat, Int.reduceLE, Int.reduceLT, Int.reduceAdd, Int.reduceSub, Int.reduceNeg, Int.reduceBEq, Int.reduceBNe, Nat.reduceBNe, Nat.reduceDiv, Nat.reduceMod, outD, cyD]) <;> simp)) trivial ?_
  intro k γ hk _
  have hc := cyD_le a b ha ‹_›
  have l0 := d0_lt
  have l1 := d1_lt
  have l2 := d2_lt
  have l3 := d3_lt
  obtain rfl | rfl | rfl | rfl | rfl := le4 hk
  · have s := add_digit (d0 a) (d0 b) (cyD a b 0) (l0 a) (l0 b) (hc 0)
    have e1 : (d0 a + d0 b + cyD a b 0) % 4294967296 = d0 (a + b) := by simp only [d0, cyD]; omega
    have e2 : (d0 a + d0 b + cyD a b 0) / 4294967296 = cyD a b 1 := by simp only [d0, cyD]; omega
    have e3 := tdivB (d0 a + d0 b + cyD a b 0) (by have := l0 a; have := l0 b; have := hc 0; omega)
    rw [e2] at e3
    refine kont_of_hx cx_ok hb 200 ?_
    simp only [go_sem, Nat.reduceAdd, Nat.reduceSub, Nat.reduceMul, Nat.reduceBEq, Nat.reduceLT, Nat.reduceLeDiff, Nat.reduceEqDiff, Int.reduceToNat, Int.reduceLE, Int.reduceLT, Int.reduceAdd, Int.reduceSub, Int.reduceNeg, Int.reduceBEq, Int.reduceBNe, Nat.reduceBNe, Nat.reduceDiv, Nat.reduceMod, ci0, outD]
    refine kont_hax cx_ok hb 200 mixed [(0, true), (1, true), (2, true), (3, true), (4, true), (5, true), (6, true), (7, true), (8, true), (9, true)] (by kernel_rfl) (by kernel_rfl) ?_
    simp only [go_sem, Nat.reduceAdd, Nat.reduceSub, Nat.reduceMul, Nat.reduceBEq, Nat.reduceLT, Nat.reduceLeDiff, Nat.reduceEqDiff, Int.reduceToNat, Int.reduceLE, Int.reduceLT, Int.reduceAdd, Int.reduceSub, Int.reduceNeg, Int.reduceBEq, Int.reduceBNe, Nat.reduceBNe, Nat.reduceDiv, Nat.reduceMod, ci0, s, tmodB, e1, e3]
    repeat (refine And.intro (by first | assumption | omega) ?_)
    refine ⟨_, Weak.to 4 (by (simp only [go_sem, Nat.reduceAdd, Nat.reduceSub, Nat.reduceMul, Nat.reduceBEq, Nat.reduceLT, Nat.reduceLeDiff, Nat.reduceEqDiff, Int.reduceToNat, Int.reduceLE, Int.reduceLT, Int.reduceAdd, Int.reduceSub, Int.reduceNeg, Int.reduceBEq, Int.reduceBNe, Nat.reduceBNe, Nat.reduceDiv, Nat.reduceMod, ci0, ci1, s, tmodB, e1, e3, Int.reduceAdd, wi1, outD]) <;> simp), ForS.mk (γ) (trivial)⟩
  · have s := add_digit (d1 a) (d1 b) (cyD a b 1) (l1 a) (l1 b) (hc 1)
    have e1 : (d1 a + d1 b + cyD a b 1) % 4294967296 = d1 (a + b) := by simp only [d1, cyD]; omega
    have e2 : (d1 a + d1 b + cyD a b 1) / 4294967296 = cyD a b 2 := by simp only [d1, cyD]; omega
    have e3 := tdivB (d1 a + d1 b + cyD a b 1) (by have := l1 a; have := l1 b; have := hc 1; omega)
    rw [e2] at e3
    refine kont_of_hx cx_ok hb 200 ?_
    simp only [go_sem, Nat.reduceAdd, Nat.reduceSub, Nat.reduceMul, Nat.reduceBEq, Nat.reduceLT, Nat.reduceLeDiff, Nat.reduceEqDiff, Int.reduceToNat, Int.reduceLE, Int.reduceLT, Int.reduceAdd, Int.reduceSub, Int.reduceNeg, Int.reduceBEq, Int.reduceBNe, Nat.reduceBNe, Nat.reduceDiv, Nat.reduceMod, ci1, outD]
    refine kont_hax cx_ok hb 200 mixed [(0, true), (1, true), (2, true), (3, true), (4, true), (5, true), (6, true), (7, true), (8, true), (9, true)] (by kernel_rfl) (by kernel_rfl) ?_
    simp only [go_sem, Nat.reduceAdd, Nat.reduceSub, Nat.reduceMul, Nat.reduceBEq, Nat.reduceLT, Nat.reduceLeDiff, Nat.reduceEqDiff, Int.reduceToNat, Int.reduceLE, Int.reduceLT, Int.reduceAdd, Int.reduceSub, Int.reduceNeg, Int.reduceBEq, Int.reduceBNe, Nat.reduceBNe, Nat.reduceDiv, Nat.reduceMod, ci1, s, tmodB, e1, e3]
    repeat (refine And.intro (by first | assumption | omega) ?_)
    refine ⟨_, Weak.to 4 (by (simp only [go_sem, Nat.reduceAdd, Nat.reduceSub, Nat.reduceMul, Nat.reduceBEq, Nat.reduceLT, Nat.reduceLeDiff, Nat.reduceEqDiff, Int.reduceToNat, Int.reduceLE, Int.reduceLT, Int.reduceAdd, Int.reduceSub, Int.reduceNeg, Int.reduceBEq, Int.reduceBNe, Nat.reduceBNe, Nat.reduceDiv, Nat.reduceMod, ci1, ci2, s, tmodB, e1, e3, Int.reduceAdd, wi2, outD]) <;> simp), ForS.mk (γ) (trivial)⟩
  · have s := add_digit (d2 a) (d2 b) (cyD a b 2) (l2 a) (l2 b) (hc 2)
    have e1 : (d2 a + d2 b + cyD a b 2) % 4294967296 = d2 (a + b) := by simp only [d2, cyD]; omega
    have e2 : (d2 a + d2 b + cyD a b 2) / 4294967296 = cyD a b 3 := by simp only [d2, cyD]; omega
    have e3 := tdivB (d2 a + d2 b + cyD a b 2) (by have := l2 a; have := l2 b; have := hc 2; omega)
    rw [e2] at e3
    refine kont_of_hx cx_ok hb 200 ?_
    simp only [go_sem, Nat.reduceAdd, Nat.reduceSub, Nat.reduceMul, Nat.reduceBEq, Nat.reduceLT, Nat.reduceLeDiff, Nat.reduceEqDiff, Int.reduceToNat, Int.reduceLE, Int.reduceLT, Int.reduceAdd, Int.reduceSub, Int.reduceNeg, Int.reduceBEq, Int.reduceBNe, Nat.reduceBNe, Nat.reduceDiv, Nat.reduceMod, ci2, outD]
    refine kont_hax cx_ok hb 200 mixed [(0, true), (1, true), (2, true), (3, true), (4, true), (5, true), (6, true), (7, true), (8, true), (9, true)] (by kernel_rfl) (by kernel_rfl) ?_
    simp only [go_sem, Nat.reduceAdd, Nat.reduceSub, Nat.reduceMul, Nat.reduceBEq, Nat.reduceLT, Nat.reduceLeDiff, Nat.reduceEqDiff, Int.reduceToNat, Int.reduceLE, Int.reduceLT, Int.reduceAdd, Int.reduceSub, Int.reduceNeg, Int.reduceBEq, Int.reduceBNe, Nat.reduceBNe, Nat.reduceDiv, Nat.reduceMod, ci2, s, tmodB, e1, e3]
    repeat (refine And.intro (by first | assumption | omega) ?_)
    refine ⟨_, Weak.to 4 (by (simp only [go_sem, Nat.reduceAdd, Nat.reduceSub, Nat.reduceMul, Nat.reduceBEq, Nat.reduceLT, Nat.reduceLeDiff, Nat.reduceEqDiff, Int.reduceToNat, Int.reduceLE, Int.reduceLT, Int.reduceAdd, Int.reduceSub, Int.reduceNeg, Int.reduceBEq, Int.reduceBNe, Nat.reduceBNe, Nat.reduceDiv, Nat.reduceMod, ci2, ci3, s, tmodB, e1, e3, Int.reduceAdd, wi3, outD]) <;> simp), ForS.mk (γ) (trivial)⟩
  · have s := add_digit (d3 a) (d3 b) (cyD a b 3) (l3 a) (l3 b) (hc 3)
    have e1 : (d3 a + d3 b + cyD a b 3) % 4294967296 = d3 (a + b) := by simp only [d3, cyD]; omega
    have e2 : (d3 a + d3 b + cyD a b 3) / 4294967296 = cyD a b 4 := by simp only [d3, cyD]; omega
    have e3 := tdivB (d3 a + d3 b + cyD a b 3) (by have := l3 a; have := l3 b; have := hc 3; omega)
    rw [e2] at e3
    refine kont_of_hx cx_ok hb 200 ?_
    simp only [go_sem, Nat.reduceAdd, Nat.reduceSub, Nat.reduceMul, Nat.reduceBEq, Nat.reduceLT, Nat.reduceLeDiff, Nat.reduceEqDiff, Int.reduceToNat, Int.reduceLE, Int.reduceLT, Int.reduceAdd, Int.reduceSub, Int.reduceNeg, Int.reduceBEq, Int.reduceBNe, Nat.reduceBNe, Nat.reduceDiv, Nat.reduceMod, ci3, outD]
    refine kont_hax cx_ok hb 200 mixed [(0, true), (1, true), (2, true), (3, true), (4, true), (5, true), (6, true), (7, true), (8, true), (9, true)] (by kernel_rfl) (by kernel_rfl) ?_
    simp only [go_sem, Nat.reduceAdd, Nat.reduceSub, Nat.reduceMul, Nat.reduceBEq, Nat.reduceLT, Nat.reduceLeDiff, Nat.reduceEqDiff, Int.reduceToNat, Int.reduceLE, Int.reduceLT, Int.reduceAdd, Int.reduceSub, Int.reduceNeg, Int.reduceBEq, Int.reduceBNe, Nat.reduceBNe, Nat.reduceDiv, Nat.reduceMod, ci3, s, tmodB, e1, e3]
    repeat (refine And.intro (by first | assumption | omega) ?_)
    refine ⟨_, Weak.to 4 (by (simp only [go_sem, Nat.reduceAdd, Nat.reduceSub, Nat.reduceMul, Nat.reduceBEq, Nat.reduceLT, Nat.reduceLeDiff, Nat.reduceEqDiff, Int.reduceToNat, Int.reduceLE, Int.reduceLT, Int.reduceAdd, Int.reduceSub, Int.reduceNeg, Int.reduceBEq, Int.reduceBNe, Nat.reduceBNe, Nat.reduceDiv, Nat.reduceMod, ci3, ci4, s, tmodB, e1, e3, Int.reduceAdd, wi4, outD]) <;> simp), ForS.mk (γ) (trivial)⟩
  · refine kont_of_hx cx_ok hb 200 ?_
    simp only [go_sem, Nat.reduceAdd, Nat.reduceSub, Nat.reduceMul, Nat.reduceBEq, Nat.reduceLT, Nat.reduceLeDiff, Nat.reduceEqDiff, Int.reduceToNat, Int.reduceLE, Int.reduceLT, Int.reduceAdd, Int.reduceSub, Int.reduceNeg, Int.reduceBEq, Int.reduceBNe, Nat.reduceBNe, Nat.reduceDiv, Nat.reduceMod, ci4, outD, cyD]
    refine kont_of_hx cx_ok hb 200 ?_
    simp only [go_sem, Nat.reduceAdd, Nat.reduceSub, Nat.reduceMul, Nat.reduceBEq, Nat.reduceLT, Nat.reduceLeDiff, Nat.reduceEqDiff, Int.reduceToNat, Int.reduceLE, Int.reduceLT, Int.reduceAdd, Int.reduceSub, Int.reduceNeg, Int.reduceBEq, Int.reduceBNe, Nat.reduceBNe, Nat.reduceDiv, Nat.reduceMod]
theorem dg_mod (n : Nat) : dg (n % 2 ^ 128) = dg n := by
  have e0 : d0 (n % 2 ^ 128) = d0 n := by simp only [d0]; omega
  have e1 : d1 (n % 2 ^ 128) = d1 n := by simp only [d1]; omega
  have e2 : d2 (n % 2 ^ 128) = d2 n := by simp only [d2]; omega
  have e3 : d3 (n % 2 ^ 128) = d3 n := by simp only [d3]; omega
  simp only [dg, e0, e1, e2, e3]
theorem rplus_ok (a b : Nat) (ha : a < 2 ^ 128) (hb : b < 2 ^ 128) : AFn Try.prog 121 [dg a, dg b] (Ret (dg (a + b))) := by
  refine AFn_hxk 0 cx_ok 200 Try.func121 rfl Try.ntmps121 Try.results121 rfl fun base w hb => ?_
  simp only [go_sem, Nat.reduceAdd, Nat.reduceSub, Nat.reduceMul, Nat.reduceBEq, Nat.reduceLT, Nat.reduceLeDiff, Nat.reduceEqDiff, Int.reduceToNat, Int.reduceLE, Int.reduceLT, Int.reduceAdd, Int.reduceSub, Int.reduceNeg, Int.reduceBEq, Int.reduceBNe, Nat.reduceBNe, Nat.reduceDiv, Nat.reduceMod]
  refine kont_call hb fn157 rfl ?_ (radd_ok a b ha ‹_›) (Ret.flat rfl) rfl fun d h hR => ?_
  · simp only [go_sem, Nat.reduceAdd, Nat.reduceSub, Nat.reduceMul, Nat.reduceBEq, Nat.reduceLT, Nat.reduceLeDiff, Nat.reduceEqDiff, Int.reduceToNat, Int.reduceLE, Int.reduceLT, Int.reduceAdd, Int.reduceSub, Int.reduceNeg, Int.reduceBEq, Int.reduceBNe, Nat.reduceBNe, Nat.reduceDiv, Nat.reduceMod]
  obtain ⟨rfl, rfl⟩ := hR
  refine kont_of_hx cx_ok hb 200 ?_
  simp only [go_sem, Nat.reduceAdd, Nat.reduceSub, Nat.reduceMul, Nat.reduceBEq, Nat.reduceLT, Nat.reduceLeDiff, Nat.reduceEqDiff, Int.reduceToNat, Int.reduceLE, Int.reduceLT, Int.reduceAdd, Int.reduceSub, Int.reduceNeg, Int.reduceBEq, Int.reduceBNe, Nat.reduceBNe, Nat.reduceDiv, Nat.reduceMod]
def bwD (a b : Nat) : Nat → Nat
  | 0 => 0
  | 1 => if a % 4294967296 < b % 4294967296 then 1 else 0
  | 2 => if a % 18446744073709551616 < b % 18446744073709551616 then 1 else 0
  | 3 => if a % 79228162514264337593543950336 < b % 79228162514264337593543950336 then 1 else 0
  | _ => if a < b then 1 else 0
theorem bwD_le (a b : Nat) : ∀ k, bwD a b k ≤ 1
  | 0 => Nat.zero_le _
  | 1 => by simp only [bwD]; split <;> omega
  | 2 => by simp only [bwD]; split <;> omega
  | 3 => by simp only [bwD]; split <;> omega
  | _ + 4 => by simp only [bwD]; split <;> omega
theorem sub_digit (x y c : Nat) (hx : x < 4294967296) (hy : y < 4294967296) (hc : c ≤ 1) : IntKind.u64.wrap (IntKind.u64.wrap (IntKind.u64.wrap ((x : Int) + 4294967296) - (y : Int)) - (c : Int)) = ((x + 4294967296 - y - c : Nat) : Int) := by
  rw [IntKind.wrap_u64, IntKind.wrap_u64, IntKind.wrap_u64]; omega
theorem one_less (t : Nat) (h : t ≤ 1) : IntKind.u64.wrap (1 - (t : Int)) = ((1 - t : Nat) : Int) := by rw [IntKind.wrap_u64]; omega
theorem rminus_ok (a b : Nat) (ha : a < 2 ^ 128) (hb : b < 2 ^ 128) : AFn Try.prog 78 [dg a, dg b] (Ret (dg (a + 2 ^ 128 - b))) := by
  refine AFn_hxk 0 cx_ok 200 Try.func78 rfl Try.ntmps78 Try.results78 rfl fun base w hb => ?_
  simp only [go_sem, Nat.reduceAdd, Nat.reduceSub, Nat.reduceMul, Nat.reduceBEq, Nat.reduceLT, Nat.reduceLeDiff, Nat.reduceEqDiff, Int.reduceToNat, Int.reduceLE, Int.reduceLT, Int.reduceAdd, Int.reduceSub, Int.reduceNeg, Int.reduceBEq, Int.reduceBNe, Nat.reduceBNe, Nat.reduceDiv, Nat.reduceMod]
  refine kont_forF (G := Nat) [2, 3, 4, 5] (fun k => True) (fun k γ => [(6, u64 (bwD a b k)), (10, dint k)]) (fun k γ => [⟨.one, 0, 4, 1, fun _ => [u64 (d0 a), u64 (d1 a), u64 (d2 a), u64 (d3 a)]⟩, ⟨.one, 0, 4, 1, fun _ => [u64 (d0 b), u64 (d1 b), u64 (d2 b), u64 (d3 b)]⟩, ⟨.one, 0, 4, 1, fun _ => [u64 0, u64 0, u64 0, u64 0]⟩, ⟨.one, 0, 4, 1, fun _ => outD (a + 2 ^ 128 - b) k⟩]) (4) (0) rfl (Weak.to 4 (by (simp only [go_sem, Nat.reduceAdd, Nat.reduceSub, Nat.reduceMul, Nat.reduceBEq, Nat.reduceLT, Nat.reduceLeDiff, Nat.reduceEqDiff, Int.reduceToNat, Int.reduceLE, Int.reduceLT, Int.reduceAdd, Int.reduceSub, Int.reduceNeg, Int.reduceBEq, Int.reduceBNe, Nat.reduceBNe, Nat.reduceDiv, Nat.reduceMod, outD, bwD]) <;> simp)) trivial ?_
  intro k γ hk _
  have hc := bwD_le a b
  have l0 := d0_lt
  have l1 := d1_lt
  have l2 := d2_lt
  have l3 := d3_lt
  obtain rfl | rfl | rfl | rfl | rfl := le4 hk
  · have g1 := l0 a
    have g2 := l0 b
    have g3 := hc 0
    have s := sub_digit (d0 a) (d0 b) (bwD a b 0) g1 g2 g3
    have e1 : (d0 a + 4294967296 - d0 b - bwD a b 0) % 4294967296 = d0 (a + 2 ^ 128 - b) := by
      simp only [d0, bwD]; (try split) <;> omega
    have e2 : 1 - (d0 a + 4294967296 - d0 b - bwD a b 0) / 4294967296 = bwD a b 1 := by
      simp only [d0, bwD]; (repeat' split) <;> omega
    have e3 := tdivB (d0 a + 4294967296 - d0 b - bwD a b 0) (by omega)
    have e4 := one_less ((d0 a + 4294967296 - d0 b - bwD a b 0) / 4294967296) (by omega)
    rw [e2] at e4
    refine kont_of_hx cx_ok hb 200 ?_
    simp only [go_sem, Nat.reduceAdd, Nat.reduceSub, Nat.reduceMul, Nat.reduceBEq, Nat.reduceLT, Nat.reduceLeDiff, Nat.reduceEqDiff, Int.reduceToNat, Int.reduceLE, Int.reduceLT, Int.reduceAdd, Int.reduceSub, Int.reduceNeg, Int.reduceBEq, Int.reduceBNe, Nat.reduceBNe, Nat.reduceDiv, Nat.reduceMod, ci0, outD]
    refine kont_hax cx_ok hb 200 mixed [(0, true), (1, true), (2, true), (3, true), (4, true), (5, true), (6, true), (7, true), (8, true), (9, true), (10, true)] (by kernel_rfl) (by kernel_rfl) ?_
    simp only [go_sem, Nat.reduceAdd, Nat.reduceSub, Nat.reduceMul, Nat.reduceBEq, Nat.reduceLT, Nat.reduceLeDiff, Nat.reduceEqDiff, Int.reduceToNat, Int.reduceLE, Int.reduceLT, Int.reduceAdd, Int.reduceSub, Int.reduceNeg, Int.reduceBEq, Int.reduceBNe, Nat.reduceBNe, Nat.reduceDiv, Nat.reduceMod, ci0, s, tmodB, e1, e3, e4]
    repeat (refine And.intro (by first | assumption | omega) ?_)
    refine ⟨_, Weak.to 4 (by (simp only [go_sem, Nat.reduceAdd, Nat.reduceSub, Nat.reduceMul, Nat.reduceBEq, Nat.reduceLT, Nat.reduceLeDiff, Nat.reduceEqDiff, Int.reduceToNat, Int.reduceLE, Int.reduceLT, Int.reduceAdd, Int.reduceSub, Int.reduceNeg, Int.reduceBEq, Int.reduceBNe, Nat.reduceBNe, Nat.reduceDiv, Nat.reduceMod, ci0, ci1, s, tmodB, e1, e3, e4, Int.reduceAdd, wi1, outD]) <;> simp), ForS.mk (γ) (trivial)⟩
  · have g1 := l1 a
    have g2 := l1 b
    have g3 := hc 1
    have s := sub_digit (d1 a) (d1 b) (bwD a b 1) g1 g2 g3
    have e1 : (d1 a + 4294967296 - d1 b - bwD a b 1) % 4294967296 = d1 (a + 2 ^ 128 - b) := by
      simp only [d1, bwD]; (try split) <;> omega
    have e2 : 1 - (d1 a + 4294967296 - d1 b - bwD a b 1) / 4294967296 = bwD a b 2 := by
      simp only [d1, bwD]; (repeat' split) <;> omega
    have e3 := tdivB (d1 a + 4294967296 - d1 b - bwD a b 1) (by omega)
    have e4 := one_less ((d1 a + 4294967296 - d1 b - bwD a b 1) / 4294967296) (by omega)
    rw [e2] at e4
    refine kont_of_hx cx_ok hb 200 ?_
    simp only [go_sem, Nat.reduceAdd, Nat.reduceSub, Nat.reduceMul, Nat.reduceBEq, Nat.reduceLT, Nat.reduceLeDiff, Nat.reduceEqDiff, Int.reduceToNat, Int.reduceLE, Int.reduceLT, Int.reduceAdd, Int.reduceSub, Int.reduceNeg, Int.reduceBEq, Int.reduceBNe, Nat.reduceBNe, Nat.reduceDiv, Nat.reduceMod, ci1, outD]
    refine kont_hax cx_ok hb 200 mixed [(0, true), (1, true), (2, true), (3, true), (4, true), (5, true), (6, true), (7, true), (8, true), (9, true), (10, true)] (by kernel_rfl) (by kernel_rfl) ?_
    simp only [go_sem, Nat.reduceAdd, Nat.reduceSub, Nat.reduceMul, Nat.reduceBEq, Nat.reduceLT, Nat.reduceLeDiff, Nat.reduceEqDiff, Int.reduceToNat, Int.reduceLE, Int.reduceLT, Int.reduceAdd, Int.reduceSub, Int.reduceNeg, Int.reduceBEq, Int.reduceBNe, Nat.reduceBNe, Nat.reduceDiv, Nat.reduceMod, ci1, s, tmodB, e1, e3, e4]
    repeat (refine And.intro (by first | assumption | omega) ?_)
    refine ⟨_, Weak.to 4 (by (simp only [go_sem, Nat.reduceAdd, Nat.reduceSub, Nat.reduceMul, Nat.reduceBEq, Nat.reduceLT, Nat.reduceLeDiff, Nat.reduceEqDiff, Int.reduceToNat, Int.reduceLE, Int.reduceLT, Int.reduceAdd, Int.reduceSub, Int.reduceNeg, Int.reduceBEq, Int.reduceBNe, Nat.reduceBNe, Nat.reduceDiv, Nat.reduceMod, ci1, ci2, s, tmodB, e1, e3, e4, Int.reduceAdd, wi2, outD]) <;> simp), ForS.mk (γ) (trivial)⟩
  · have g1 := l2 a
    have g2 := l2 b
    have g3 := hc 2
    have s := sub_digit (d2 a) (d2 b) (bwD a b 2) g1 g2 g3
    have e1 : (d2 a + 4294967296 - d2 b - bwD a b 2) % 4294967296 = d2 (a + 2 ^ 128 - b) := by
      simp only [d2, bwD]; (try split) <;> omega
    have e2 : 1 - (d2 a + 4294967296 - d2 b - bwD a b 2) / 4294967296 = bwD a b 3 := by
      simp only [d2, bwD]; (repeat' split) <;> omega
    have e3 := tdivB (d2 a + 4294967296 - d2 b - bwD a b 2) (by omega)
    have e4 := one_less ((d2 a + 4294967296 - d2 b - bwD a b 2) / 4294967296) (by omega)
    rw [e2] at e4
    refine kont_of_hx cx_ok hb 200 ?_
    simp only [go_sem, Nat.reduceAdd, Nat.reduceSub, Nat.reduceMul, Nat.reduceBEq, Nat.reduceLT, Nat.reduceLeDiff, Nat.reduceEqDiff, Int.reduceToNat, Int.reduceLE, Int.reduceLT, Int.reduceAdd, Int.reduceSub, Int.reduceNeg, Int.reduceBEq, Int.reduceBNe, Nat.reduceBNe, Nat.reduceDiv, Nat.reduceMod, ci2, outD]
    refine kont_hax cx_ok hb 200 mixed [(0, true), (1, true), (2, true), (3, true), (4, true), (5, true), (6, true), (7, true), (8, true), (9, true), (10, true)] (by kernel_rfl) (by kernel_rfl) ?_
    simp only [go_sem, Nat.reduceAdd, Nat.reduceSub, Nat.reduceMul, Nat.reduceBEq, Nat.reduceLT, Nat.reduceLeDiff, Nat.reduceEqDiff, Int.reduceToNat, Int.reduceLE, Int.reduceLT, Int.reduceAdd, Int.reduceSub, Int.reduceNeg, Int.reduceBEq, Int.reduceBNe, Nat.reduceBNe, Nat.reduceDiv, Nat.reduceMod, ci2, s, tmodB, e1, e3, e4]
    repeat (refine And.intro (by first | assumption | omega) ?_)
    refine ⟨_, Weak.to 4 (by (simp only [go_sem, Nat.reduceAdd, Nat.reduceSub, Nat.reduceMul, Nat.reduceBEq, Nat.reduceLT, Nat.reduceLeDiff, Nat.reduceEqDiff, Int.reduceToNat, Int.reduceLE, Int.reduceLT, Int.reduceAdd, Int.reduceSub, Int.reduceNeg, Int.reduceBEq, Int.reduceBNe, Nat.reduceBNe, Nat.reduceDiv, Nat.reduceMod, ci2, ci3, s, tmodB, e1, e3, e4, Int.reduceAdd, wi3, outD]) <;> simp), ForS.mk (γ) (trivial)⟩
  · have g1 := l3 a
    have g2 := l3 b
    have g3 := hc 3
    have s := sub_digit (d3 a) (d3 b) (bwD a b 3) g1 g2 g3
    have e1 : (d3 a + 4294967296 - d3 b - bwD a b 3) % 4294967296 = d3 (a + 2 ^ 128 - b) := by
      simp only [d3, bwD]; (try split) <;> omega
    have e2 : 1 - (d3 a + 4294967296 - d3 b - bwD a b 3) / 4294967296 = bwD a b 4 := by
      simp only [d3, bwD]; (repeat' split) <;> omega
    have e3 := tdivB (d3 a + 4294967296 - d3 b - bwD a b 3) (by omega)
    have e4 := one_less ((d3 a + 4294967296 - d3 b - bwD a b 3) / 4294967296) (by omega)
    rw [e2] at e4
    refine kont_of_hx cx_ok hb 200 ?_
    simp only [go_sem, Nat.reduceAdd, Nat.reduceSub, Nat.reduceMul, Nat.reduceBEq, Nat.reduceLT, Nat.reduceLeDiff, Nat.reduceEqDiff, Int.reduceToNat, Int.reduceLE, Int.reduceLT, Int.reduceAdd, Int.reduceSub, Int.reduceNeg, Int.reduceBEq, Int.reduceBNe, Nat.reduceBNe, Nat.reduceDiv, Nat.reduceMod, ci3, outD]
    refine kont_hax cx_ok hb 200 mixed [(0, true), (1, true), (2, true), (3, true), (4, true), (5, true), (6, true), (7, true), (8, true), (9, true), (10, true)] (by kernel_rfl) (by kernel_rfl) ?_
    simp only [go_sem, Nat.reduceAdd, Nat.reduceSub, Nat.reduceMul, Nat.reduceBEq, Nat.reduceLT, Nat.reduceLeDiff, Nat.reduceEqDiff, Int.reduceToNat, Int.reduceLE, Int.reduceLT, Int.reduceAdd, Int.reduceSub, Int.reduceNeg, Int.reduceBEq, Int.reduceBNe, Nat.reduceBNe, Nat.reduceDiv, Nat.reduceMod, ci3, s, tmodB, e1, e3, e4]
    repeat (refine And.intro (by first | assumption | omega) ?_)
    refine ⟨_, Weak.to 4 (by (simp only [go_sem, Nat.reduceAdd, Nat.reduceSub, Nat.reduceMul, Nat.reduceBEq, Nat.reduceLT, Nat.reduceLeDiff, Nat.reduceEqDiff, Int.reduceToNat, Int.reduceLE, Int.reduceLT, Int.reduceAdd, Int.reduceSub, Int.reduceNeg, Int.reduceBEq, Int.reduceBNe, Nat.reduceBNe, Nat.reduceDiv, Nat.reduceMod, ci3, ci4, s, tmodB, e1, e3, e4, Int.reduceAdd, wi4, outD]) <;> simp), ForS.mk (γ) (trivial)⟩
  · refine kont_of_hx cx_ok hb 200 ?_
    simp only [go_sem, Nat.reduceAdd, Nat.reduceSub, Nat.reduceMul, Nat.reduceBEq, Nat.reduceLT, Nat.reduceLeDiff, Nat.reduceEqDiff, Int.reduceToNat, Int.reduceLE, Int.reduceLT, Int.reduceAdd, Int.reduceSub, Int.reduceNeg, Int.reduceBEq, Int.reduceBNe, Nat.reduceBNe, Nat.reduceDiv, Nat.reduceMod, ci4, outD]
    refine kont_of_hx cx_ok hb 200 ?_
    simp only [go_sem, Nat.reduceAdd, Nat.reduceSub, Nat.reduceMul, Nat.reduceBEq, Nat.reduceLT, Nat.reduceLeDiff, Nat.reduceEqDiff, Int.reduceToNat, Int.reduceLE, Int.reduceLT, Int.reduceAdd, Int.reduceSub, Int.reduceNeg, Int.reduceBEq, Int.reduceBNe, Nat.reduceBNe, Nat.reduceDiv, Nat.reduceMod]
end Go.Fg.X
