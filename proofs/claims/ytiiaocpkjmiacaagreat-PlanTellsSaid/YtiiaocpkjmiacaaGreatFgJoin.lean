/- Walks of the functions that the statement reaches. No conditions: contracts and laws. -/
import Derived.Test.YtiiaocpkjmiacaaGreatXW3
import Derived.Test.YtiiaocpkjmiacaaGreatFgTell
namespace Go.Fg.X
open Go.Proofs Go.Fg
set_option maxRecDepth 100000
set_option maxHeartbeats 4000000
set_option linter.unusedSimpArgs false
set_option linter.unusedVariables false
def outD (n : Nat) : Nat → List D
  | 0 => [u64 0, u64 0, u64 0, u64 0]
  | 1 => [u64 (d0 n), u64 0, u64 0, u64 0]
  | 2 => [u64 (d0 n), u64 (d1 n), u64 0, u64 0]
  | 3 => [u64 (d0 n), u64 (d1 n), u64 (d2 n), u64 0]
  | _ => [u64 (d0 n), u64 (d1 n), u64 (d2 n), u64 (d3 n)]
def cyD (a b : Nat) : Nat → Nat
  | 0 => 0
  | 1 => (a % 4294967296 + b % 4294967296) / 4294967296
  | 2 => (a % 18446744073709551616 + b % 18446744073709551616) / 18446744073709551616
  | 3 => (a % 79228162514264337593543950336 + b % 79228162514264337593543950336) / 79228162514264337593543950336
  | _ => (a + b) / 340282366920938463463374607431768211456
theorem cyD_le (a b : Nat) (ha : a < 2 ^ 128) (hb : b < 2 ^ 128) : ∀ k, cyD a b k ≤ 1
  | 0 => Nat.zero_le _
  | 1 => by simp only [cyD]; omega
  | 2 => by simp only [cyD]; omega
  | 3 => by simp only [cyD]; omega
  | _ + 4 => by simp only [cyD]; omega
theorem add_digit (x y c : Nat) (hx : x < 4294967296) (hy : y < 4294967296) (hc : c ≤ 1) : IntKind.u64.wrap (IntKind.u64.wrap ((x : Int) + (y : Int)) + (c : Int)) = ((x + y + c : Nat) : Int) := by
  rw [wu_add, wu_add]; congr 1; omega
theorem radd_ok (a b : Nat) (ha : a < 2 ^ 128) (hb : b < 2 ^ 128) : AFn Tryz.prog 116 [dg a, dg b] (Ret (.tup [dg (a + b), u64 ((a + b) / 340282366920938463463374607431768211456)])) := by
  refine AFn_hxk 0 cx_ok 200 Tryz.func116 rfl Tryz.ntmps116 Tryz.results116 rfl fun base w hb => ?_
  simp only [go_sem, Nat.reduceAdd, Nat.reduceSub, Nat.reduceMul, Nat.reduceBEq, Nat.reduceLT, Nat.reduceLeDiff, Nat.reduceEqDiff, Int.reduceToNat, Int.reduceLE, Int.reduceLT, Int.reduceAdd, Int.reduceSub, Int.reduceNeg, Int.reduceBEq, Int.reduceBNe, Nat.reduceBNe, Nat.reduceDiv, Nat.reduceMod]
  refine kont_forF (G := Nat) [2, 3, 4, 6] (fun k => True) (fun k γ => [(7, u64 (cyD a b k)), (11, dint k)]) (fun k γ => [⟨.one, 0, 4, 1, fun _ => [u64 (d0 a), u64 (d1 a), u64 (d2 a), u64 (d3 a)]⟩, ⟨.one, 0, 4, 1, fun _ => [u64 (d0 b), u64 (d1 b), u64 (d2 b), u64 (d3 b)]⟩, ⟨.one, 0, 4, 1, fun _ => [u64 0, u64 0, u64 0, u64 0]⟩, ⟨.one, 0, 4, 1, fun _ => outD (a + b) k⟩]) (4) (0) rfl (Weak.to 4 (by (simp only [go_sem, Nat.reduceAdd, Nat.reduceSub, Nat.reduceMul, Nat.reduceBEq, Nat.reduceLT, Nat.reduceLeDiff, Nat.reduceEqDiff, Int.reduceToNat, Int.reduceLE, Int.reduceLT, Int.reduceAdd, Int.reduceSub, Int.reduceNeg, Int.reduceBEq, Int.reduceBNe, Nat.reduceBNe, Nat.reduceDiv, Nat.reduceMod, outD, cyD]) <;> simp)) trivial ?_
  intro k γ hk _
  have hc := cyD_le a b ha ‹_›
  have l0 := d0_lt
  have l1 := d1_lt
  have l2 := d2_lt
  have l3 := d3_lt
  obtain rfl | rfl | rfl | rfl | rfl := le4 hk
  · have s := add_digit (d0 a) (d0 b) (cyD a b 0) (l0 a) (l0 b) (hc 0)
    have e1 : (d0 a + d0 b + cyD a b 0) % 4294967296 = d0 (a + b) := by simp only [d0, cyD]; omega
    have e2 : (d0 a + d0 b + cyD a b 0) / 4294967296 = cyD a b 1 := by simp only [d0, cyD]; omega
    have e3 := tdivB (d0 a + d0 b + cyD a b 0) (by have := l0 a; have := l0 b; have := hc 0; omega)
    rw [e2] at e3
    refine kont_of_hx cx_ok hb 200 ?_
    simp only [go_sem, Nat.reduceAdd, Nat.reduceSub, Nat.reduceMul, Nat.reduceBEq, Nat.reduceLT, Nat.reduceLeDiff, Nat.reduceEqDiff, Int.reduceToNat, Int.reduceLE, Int.reduceLT, Int.reduceAdd, Int.reduceSub, Int.reduceNeg, Int.reduceBEq, Int.reduceBNe, Nat.reduceBNe, Nat.reduceDiv, Nat.reduceMod, ci0, outD]
    refine kont_hax cx_ok hb 200 mixed [(0, true), (1, true), (2, true), (3, true), (4, true), (5, true), (6, true), (7, true), (8, true), (9, true)] (by kernel_rfl) (by kernel_rfl) ?_
    simp only [go_sem, Nat.reduceAdd, Nat.reduceSub, Nat.reduceMul, Nat.reduceBEq, Nat.reduceLT, Nat.reduceLeDiff, Nat.reduceEqDiff, Int.reduceToNat, Int.reduceLE, Int.reduceLT, Int.reduceAdd, Int.reduceSub, Int.reduceNeg, Int.reduceBEq, Int.reduceBNe, Nat.reduceBNe, Nat.reduceDiv, Nat.reduceMod, ci0, s, tmodB, e1, e3]
    repeat (refine And.intro (by first | assumption | omega) ?_)
    refine ⟨_, Weak.to 4 (by (simp only [go_sem, Nat.reduceAdd, Nat.reduceSub, Nat.reduceMul, Nat.reduceBEq, Nat.reduceLT, Nat.reduceLeDiff, Nat.reduceEqDiff, Int.reduceToNat, Int.reduceLE, Int.reduceLT, Int.reduceAdd, Int.reduceSub, Int.reduceNeg, Int.reduceBEq, Int.reduceBNe, Nat.reduceBNe, Nat.reduceDiv, Nat.reduceMod, ci0, ci1, s, tmodB, e1, e3, Int.reduceAdd, wi1, outD]) <;> simp), ForS.mk (γ) (trivial)⟩
  · have s := add_digit (d1 a) (d1 b) (cyD a b 1) (l1 a) (l1 b) (hc 1)
    have e1 : (d1 a + d1 b + cyD a b 1) % 4294967296 = d1 (a + b) := by simp only [d1, cyD]; omega
    have e2 : (d1 a + d1 b + cyD a b 1) / 4294967296 = cyD a b 2 := by simp only [d1, cyD]; omega
    have e3 := tdivB (d1 a + d1 b + cyD a b 1) (by have := l1 a; have := l1 b; have := hc 1; omega)
    rw [e2] at e3
    refine kont_of_hx cx_ok hb 200 ?_
    simp only [go_sem, Nat.reduceAdd, Nat.reduceSub, Nat.reduceMul, Nat.reduceBEq, Nat.reduceLT, Nat.reduceLeDiff, Nat.reduceEqDiff, Int.reduceToNat, Int.reduceLE, Int.reduceLT, Int.reduceAdd, Int.reduceSub, Int.reduceNeg, Int.reduceBEq, Int.reduceBNe, Nat.reduceBNe, Nat.reduceDiv, Nat.reduceMod, ci1, outD]
    refine kont_hax cx_ok hb 200 mixed [(0, true), (1, true), (2, true), (3, true), (4, true), (5, true), (6, true), (7, true), (8, true), (9, true)] (by kernel_rfl) (by kernel_rfl) ?_
    simp only [go_sem, Nat.reduceAdd, Nat.reduceSub, Nat.reduceMul, Nat.reduceBEq, Nat.reduceLT, Nat.reduceLeDiff, Nat.reduceEqDiff, Int.reduceToNat, Int.reduceLE, Int.reduceLT, Int.reduceAdd, Int.reduceSub, Int.reduceNeg, Int.reduceBEq, Int.reduceBNe, Nat.reduceBNe, Nat.reduceDiv, Nat.reduceMod, ci1, s, tmodB, e1, e3]
    repeat (refine And.intro (by first | assumption | omega) ?_)
    refine ⟨_, Weak.to 4 (by (simp only [go_sem, Nat.reduceAdd, Nat.reduceSub, Nat.reduceMul, Nat.reduceBEq, Nat.reduceLT, Nat.reduceLeDiff, Nat.reduceEqDiff, Int.reduceToNat, Int.reduceLE, Int.reduceLT, Int.reduceAdd, Int.reduceSub, Int.reduceNeg, Int.reduceBEq, Int.reduceBNe, Nat.reduceBNe, Nat.reduceDiv, Nat.reduceMod, ci1, ci2, s, tmodB, e1, e3, Int.reduceAdd, wi2, outD]) <;> simp), ForS.mk (γ) (trivial)⟩
  · have s := add_digit (d2 a) (d2 b) (cyD a b 2) (l2 a) (l2 b) (hc 2)
    have e1 : (d2 a + d2 b + cyD a b 2) % 4294967296 = d2 (a + b) := by simp only [d2, cyD]; omega
    have e2 : (d2 a + d2 b + cyD a b 2) / 4294967296 = cyD a b 3 := by simp only [d2, cyD]; omega
    have e3 := tdivB (d2 a + d2 b + cyD a b 2) (by have := l2 a; have := l2 b; have := hc 2; omega)
    rw [e2] at e3
    refine kont_of_hx cx_ok hb 200 ?_
    simp only [go_sem, Nat.reduceAdd, Nat.reduceSub, Nat.reduceMul, Nat.reduceBEq, Nat.reduceLT, Nat.reduceLeDiff, Nat.reduceEqDiff, Int.reduceToNat, Int.reduceLE, Int.reduceLT, Int.reduceAdd, Int.reduceSub, Int.reduceNeg, Int.reduceBEq, Int.reduceBNe, Nat.reduceBNe, Nat.reduceDiv, Nat.reduceMod, ci2, outD]
    refine kont_hax cx_ok hb 200 mixed [(0, true), (1, true), (2, true), (3, true), (4, true), (5, true), (6, true), (7, true), (8, true), (9, true)] (by kernel_rfl) (by kernel_rfl) ?_
    simp only [go_sem, Nat.reduceAdd, Nat.reduceSub, Nat.reduceMul, Nat.reduceBEq, Nat.reduceLT, Nat.reduceLeDiff, Nat.reduceEqDiff, Int.reduceToNat, Int.reduceLE, Int.reduceLT, Int.reduceAdd, Int.reduceSub, Int.reduceNeg, Int.reduceBEq, Int.reduceBNe, Nat.reduceBNe, Nat.reduceDiv, Nat.reduceMod, ci2, s, tmodB, e1, e3]
    repeat (refine And.intro (by first | assumption | omega) ?_)
    refine ⟨_, Weak.to 4 (by (simp only [go_sem, Nat.reduceAdd, Nat.reduceSub, Nat.reduceMul, Nat.reduceBEq, Nat.reduceLT, Nat.reduceLeDiff, Nat.reduceEqDiff, Int.reduceToNat, Int.reduceLE, Int.reduceLT, Int.reduceAdd, Int.reduceSub, Int.reduceNeg, Int.reduceBEq, Int.reduceBNe, Nat.reduceBNe, Nat.reduceDiv, Nat.reduceMod, ci2, ci3, s, tmodB, e1, e3, Int.reduceAdd, wi3, outD]) <;> simp), ForS.mk (γ) (trivial)⟩
  · have s := add_digit (d3 a) (d3 b) (cyD a b 3) (l3 a) (l3 b) (hc 3)
    have e1 : (d3 a + d3 b + cyD a b 3) % 4294967296 = d3 (a + b) := by simp only [d3, cyD]; omega
    have e2 : (d3 a + d3 b + cyD a b 3) / 4294967296 = cyD a b 4 := by simp only [d3, cyD]; omega
    have e3 := tdivB (d3 a + d3 b + cyD a b 3) (by have := l3 a; have := l3 b; have := hc 3; omega)
    rw [e2] at e3
    refine kont_of_hx cx_ok hb 200 ?_
    simp only [go_sem, Nat.reduceAdd, Nat.reduceSub, Nat.reduceMul, Nat.reduceBEq, Nat.reduceLT, Nat.reduceLeDiff, Nat.reduceEqDiff, Int.reduceToNat, Int.reduceLE, Int.reduceLT, Int.reduceAdd, Int.reduceSub, Int.reduceNeg, Int.reduceBEq, Int.reduceBNe, Nat.reduceBNe, Nat.reduceDiv, Nat.reduceMod, ci3, outD]
    refine kont_hax cx_ok hb 200 mixed [(0, true), (1, true), (2, true), (3, true), (4, true), (5, true), (6, true), (7, true), (8, true), (9, true)] (by kernel_rfl) (by kernel_rfl) ?_
    simp only [go_sem, Nat.reduceAdd, Nat.reduceSub, Nat.reduceMul, Nat.reduceBEq, Nat.reduceLT, Nat.reduceLeDiff, Nat.reduceEqDiff, Int.reduceToNat, Int.reduceLE, Int.reduceLT, Int.reduceAdd, Int.reduceSub, Int.reduceNeg, Int.reduceBEq, Int.reduceBNe, Nat.reduceBNe, Nat.reduceDiv, Nat.reduceMod, ci3, s, tmodB, e1, e3]
    repeat (refine And.intro (by first | assumption | omega) ?_)
    refine ⟨_, Weak.to 4 (by (simp only [go_sem, Nat.reduceAdd, Nat.reduceSub, Nat.reduceMul, Nat.reduceBEq, Nat.reduceLT, Nat.reduceLeDiff, Nat.reduceEqDiff, Int.reduceToNat, Int.reduceLE, Int.reduceLT, Int.reduceAdd, Int.reduceSub, Int.reduceNeg, Int.reduceBEq, Int.reduceBNe, Nat.reduceBNe, Nat.reduceDiv, Nat.reduceMod, ci3, ci4, s, tmodB, e1, e3, Int.reduceAdd, wi4, outD]) <;> simp), ForS.mk (γ) (trivial)⟩
  · refine kont_of_hx cx_ok hb 200 ?_
    simp only [go_sem, Nat.reduceAdd, Nat.reduceSub, Nat.reduceMul, Nat.reduceBEq, Nat.reduceLT, Nat.reduceLeDiff, Nat.reduceEqDiff, Int.reduceToNat, Int.reduceLE, Int.reduceLT, Int.reduceAdd, Int.reduceSub, Int.reduceNeg, Int.reduceBEq, Int.reduceBNe, Nat.reduceBNe, Nat.reduceDiv, Nat.reduceMod, ci4, outD, cyD]
    refine kont_of_hx cx_ok hb 200 ?_
    simp only [go_sem, Nat.reduceAdd, Nat.reduceSub, Nat.reduceMul, Nat.reduceBEq, Nat.reduceLT, Nat.reduceLeDiff, Nat.reduceEqDiff, Int.reduceToNat, Int.reduceLE, Int.reduceLT, Int.reduceAdd, Int.reduceSub, Int.reduceNeg, Int.reduceBEq, Int.reduceBNe, Nat.reduceBNe, Nat.reduceDiv, Nat.reduceMod]
theorem dg_mod (n : Nat) : dg (n % 2 ^ 128) = dg n := by
  have e0 : d0 (n % 2 ^ 128) = d0 n := by simp only [d0]; omega
  have e1 : d1 (n % 2 ^ 128) = d1 n := by simp only [d1]; omega
  have e2 : d2 (n % 2 ^ 128) = d2 n := by simp only [d2]; omega
  have e3 : d3 (n % 2 ^ 128) = d3 n := by simp only [d3]; omega
  simp only [dg, e0, e1, e2, e3]
theorem rplus_ok (a b : Nat) (ha : a < 2 ^ 128) (hb : b < 2 ^ 128) : AFn Tryz.prog 92 [dg a, dg b] (Ret (dg (a + b))) := by
  refine AFn_hxk 0 cx_ok 200 Tryz.func92 rfl Tryz.ntmps92 Tryz.results92 rfl fun base w hb => ?_
  simp only [go_sem, Nat.reduceAdd, Nat.reduceSub, Nat.reduceMul, Nat.reduceBEq, Nat.reduceLT, Nat.reduceLeDiff, Nat.reduceEqDiff, Int.reduceToNat, Int.reduceLE, Int.reduceLT, Int.reduceAdd, Int.reduceSub, Int.reduceNeg, Int.reduceBEq, Int.reduceBNe, Nat.reduceBNe, Nat.reduceDiv, Nat.reduceMod]
  refine kont_call hb fn116 rfl ?_ (radd_ok a b ha ‹_›) (Ret.flat rfl) rfl fun d h hR => ?_
  · simp only [go_sem, Nat.reduceAdd, Nat.reduceSub, Nat.reduceMul, Nat.reduceBEq, Nat.reduceLT, Nat.reduceLeDiff, Nat.reduceEqDiff, Int.reduceToNat, Int.reduceLE, Int.reduceLT, Int.reduceAdd, Int.reduceSub, Int.reduceNeg, Int.reduceBEq, Int.reduceBNe, Nat.reduceBNe, Nat.reduceDiv, Nat.reduceMod]
  obtain ⟨rfl, rfl⟩ := hR
  refine kont_of_hx cx_ok hb 200 ?_
  simp only [go_sem, Nat.reduceAdd, Nat.reduceSub, Nat.reduceMul, Nat.reduceBEq, Nat.reduceLT, Nat.reduceLeDiff, Nat.reduceEqDiff, Int.reduceToNat, Int.reduceLE, Int.reduceLT, Int.reduceAdd, Int.reduceSub, Int.reduceNeg, Int.reduceBEq, Int.reduceBNe, Nat.reduceBNe, Nat.reduceDiv, Nat.reduceMod]
def bwD (a b : Nat) : Nat → Nat
  | 0 => 0
  | 1 => if a % 4294967296 < b % 4294967296 then 1 else 0
  | 2 => if a % 18446744073709551616 < b % 18446744073709551616 then 1 else 0
  | 3 => if a % 79228162514264337593543950336 < b % 79228162514264337593543950336 then 1 else 0
  | _ => if a < b then 1 else 0
theorem bwD_le (a b : Nat) : ∀ k, bwD a b k ≤ 1
  | 0 => Nat.zero_le _
  | 1 => by simp only [bwD]; split <;> omega
  | 2 => by simp only [bwD]; split <;> omega
  | 3 => by simp only [bwD]; split <;> omega
  | _ + 4 => by simp only [bwD]; split <;> omega
theorem sub_digit (x y c : Nat) (hx : x < 4294967296) (hy : y < 4294967296) (hc : c ≤ 1) : IntKind.u64.wrap (IntKind.u64.wrap (IntKind.u64.wrap ((x : Int) + 4294967296) - (y : Int)) - (c : Int)) = ((x + 4294967296 - y - c : Nat) : Int) := by
  rw [IntKind.wrap_u64, IntKind.wrap_u64, IntKind.wrap_u64]; omega
theorem one_less (t : Nat) (h : t ≤ 1) : IntKind.u64.wrap (1 - (t : Int)) = ((1 - t : Nat) : Int) := by rw [IntKind.wrap_u64]; omega
theorem rminus_ok (a b : Nat) (ha : a < 2 ^ 128) (hb : b < 2 ^ 128) : AFn Tryz.prog 59 [dg a, dg b] (Ret (dg (a + 2 ^ 128 - b))) := by
  refine AFn_hxk 0 cx_ok 200 Tryz.func59 rfl Tryz.ntmps59 Tryz.results59 rfl fun base w hb => ?_
  simp only [go_sem, Nat.reduceAdd, Nat.reduceSub, Nat.reduceMul, Nat.reduceBEq, Nat.reduceLT, Nat.reduceLeDiff, Nat.reduceEqDiff, Int.reduceToNat, Int.reduceLE, Int.reduceLT, Int.reduceAdd, Int.reduceSub, Int.reduceNeg, Int.reduceBEq, Int.reduceBNe, Nat.reduceBNe, Nat.reduceDiv, Nat.reduceMod]
  refine kont_forF (G := Nat) [2, 3, 4, 5] (fun k => True) (fun k γ => [(6, u64 (bwD a b k)), (10, dint k)]) (fun k γ => [⟨.one, 0, 4, 1, fun _ => [u64 (d0 a), u64 (d1 a), u64 (d2 a), u64 (d3 a)]⟩, ⟨.one, 0, 4, 1, fun _ => [u64 (d0 b), u64 (d1 b), u64 (d2 b), u64 (d3 b)]⟩, ⟨.one, 0, 4, 1, fun _ => [u64 0, u64 0, u64 0, u64 0]⟩, ⟨.one, 0, 4, 1, fun _ => outD (a + 2 ^ 128 - b) k⟩]) (4) (0) rfl (Weak.to 4 (by (simp only [go_sem, Nat.reduceAdd, Nat.reduceSub, Nat.reduceMul, Nat.reduceBEq, Nat.reduceLT, Nat.reduceLeDiff, Nat.reduceEqDiff, Int.reduceToNat, Int.reduceLE, Int.reduceLT, Int.reduceAdd, Int.reduceSub, Int.reduceNeg, Int.reduceBEq, Int.reduceBNe, Nat.reduceBNe, Nat.reduceDiv, Nat.reduceMod, outD, bwD]) <;> simp)) trivial ?_
  intro k γ hk _
  have hc := bwD_le a b
  have l0 := d0_lt
  have l1 := d1_lt
  have l2 := d2_lt
  have l3 := d3_lt
  obtain rfl | rfl | rfl | rfl | rfl := le4 hk
  · have g1 := l0 a
    have g2 := l0 b
    have g3 := hc 0
    have s := sub_digit (d0 a) (d0 b) (bwD a b 0) g1 g2 g3
    have e1 : (d0 a + 4294967296 - d0 b - bwD a b 0) % 4294967296 = d0 (a + 2 ^ 128 - b) := by
      simp only [d0, bwD]; (try split) <;> omega
    have e2 : 1 - (d0 a + 4294967296 - d0 b - bwD a b 0) / 4294967296 = bwD a b 1 := by
      simp only [d0, bwD]; (repeat' split) <;> omega
    have e3 := tdivB (d0 a + 4294967296 - d0 b - bwD a b 0) (by omega)
    have e4 := one_less ((d0 a + 4294967296 - d0 b - bwD a b 0) / 4294967296) (by omega)
    rw [e2] at e4
    refine kont_of_hx cx_ok hb 200 ?_
    simp only [go_sem, Nat.reduceAdd, Nat.reduceSub, Nat.reduceMul, Nat.reduceBEq, Nat.reduceLT, Nat.reduceLeDiff, Nat.reduceEqDiff, Int.reduceToNat, Int.reduceLE, Int.reduceLT, Int.reduceAdd, Int.reduceSub, Int.reduceNeg, Int.reduceBEq, Int.reduceBNe, Nat.reduceBNe, Nat.reduceDiv, Nat.reduceMod, ci0, outD]
    refine kont_hax cx_ok hb 200 mixed [(0, true), (1, true), (2, true), (3, true), (4, true), (5, true), (6, true), (7, true), (8, true), (9, true), (10, true)] (by kernel_rfl) (by kernel_rfl) ?_
    simp only [go_sem, Nat.reduceAdd, Nat.reduceSub, Nat.reduceMul, Nat.reduceBEq, Nat.reduceLT, Nat.reduceLeDiff, Nat.reduceEqDiff, Int.reduceToNat, Int.reduceLE, Int.reduceLT, Int.reduceAdd, Int.reduceSub, Int.reduceNeg, Int.reduceBEq, Int.reduceBNe, Nat.reduceBNe, Nat.reduceDiv, Nat.reduceMod, ci0, s, tmodB, e1, e3, e4]
    repeat (refine And.intro (by first | assumption | omega) ?_)
    refine ⟨_, Weak.to 4 (by (simp only [go_sem, Nat.reduceAdd, Nat.reduceSub, Nat.reduceMul, Nat.reduceBEq, Nat.reduceLT, Nat.reduceLeDiff, Nat.reduceEqDiff, Int.reduceToNat, Int.reduceLE, Int.reduceLT, Int.reduceAdd, Int.reduceSub, Int.reduceNeg, Int.reduceBEq, Int.reduceBNe, Nat.reduceBNe, Nat.reduceDiv, Nat.reduceMod, ci0, ci1, s, tmodB, e1, e3, e4, Int.reduceAdd, wi1, outD]) <;> simp), ForS.mk (γ) (trivial)⟩
  · have g1 := l1 a
    have g2 := l1 b
    have g3 := hc 1
    have s := sub_digit (d1 a) (d1 b) (bwD a b 1) g1 g2 g3
    have e1 : (d1 a + 4294967296 - d1 b - bwD a b 1) % 4294967296 = d1 (a + 2 ^ 128 - b) := by
      simp only [d1, bwD]; (try split) <;> omega
    have e2 : 1 - (d1 a + 4294967296 - d1 b - bwD a b 1) / 4294967296 = bwD a b 2 := by
      simp only [d1, bwD]; (repeat' split) <;> omega
    have e3 := tdivB (d1 a + 4294967296 - d1 b - bwD a b 1) (by omega)
    have e4 := one_less ((d1 a + 4294967296 - d1 b - bwD a b 1) / 4294967296) (by omega)
    rw [e2] at e4
    refine kont_of_hx cx_ok hb 200 ?_
    simp only [go_sem, Nat.reduceAdd, Nat.reduceSub, Nat.reduceMul, Nat.reduceBEq, Nat.reduceLT, Nat.reduceLeDiff, Nat.reduceEqDiff, Int.reduceToNat, Int.reduceLE, Int.reduceLT, Int.reduceAdd, Int.reduceSub, Int.reduceNeg, Int.reduceBEq, Int.reduceBNe, Nat.reduceBNe, Nat.reduceDiv, Nat.reduceMod, ci1, outD]
    refine kont_hax cx_ok hb 200 mixed [(0, true), (1, true), (2, true), (3, true), (4, true), (5, true), (6, true), (7, true), (8, true), (9, true), (10, true)] (by kernel_rfl) (by kernel_rfl) ?_
    simp only [go_sem, Nat.reduceAdd, Nat.reduceSub, Nat.reduceMul, Nat.reduceBEq, Nat.reduceLT, Nat.reduceLeDiff, Nat.reduceEqDiff, Int.reduceToNat, Int.reduceLE, Int.reduceLT, Int.reduceAdd, Int.reduceSub, Int.reduceNeg, Int.reduceBEq, Int.reduceBNe, Nat.reduceBNe, Nat.reduceDiv, Nat.reduceMod, ci1, s, tmodB, e1, e3, e4]
    repeat (refine And.intro (by first | assumption | omega) ?_)
    refine ⟨_, Weak.to 4 (by (simp only [go_sem, Nat.reduceAdd, Nat.reduceSub, Nat.reduceMul, Nat.reduceBEq, Nat.reduceLT, Nat.reduceLeDiff, Nat.reduceEqDiff, Int.reduceToNat, Int.reduceLE, Int.reduceLT, Int.reduceAdd, Int.reduceSub, Int.reduceNeg, Int.reduceBEq, Int.reduceBNe, Nat.reduceBNe, Nat.reduceDiv, Nat.reduceMod, ci1, ci2, s, tmodB, e1, e3, e4, Int.reduceAdd, wi2, outD]) <;> simp), ForS.mk (γ) (trivial)⟩
  · have g1 := l2 a
    have g2 := l2 b
    have g3 := hc 2
    have s := sub_digit (d2 a) (d2 b) (bwD a b 2) g1 g2 g3
    have e1 : (d2 a + 4294967296 - d2 b - bwD a b 2) % 4294967296 = d2 (a + 2 ^ 128 - b) := by
      simp only [d2, bwD]; (try split) <;> omega
    have e2 : 1 - (d2 a + 4294967296 - d2 b - bwD a b 2) / 4294967296 = bwD a b 3 := by
      simp only [d2, bwD]; (repeat' split) <;> omega
    have e3 := tdivB (d2 a + 4294967296 - d2 b - bwD a b 2) (by omega)
    have e4 := one_less ((d2 a + 4294967296 - d2 b - bwD a b 2) / 4294967296) (by omega)
    rw [e2] at e4
    refine kont_of_hx cx_ok hb 200 ?_
    simp only [go_sem, Nat.reduceAdd, Nat.reduceSub, Nat.reduceMul, Nat.reduceBEq, Nat.reduceLT, Nat.reduceLeDiff, Nat.reduceEqDiff, Int.reduceToNat, Int.reduceLE, Int.reduceLT, Int.reduceAdd, Int.reduceSub, Int.reduceNeg, Int.reduceBEq, Int.reduceBNe, Nat.reduceBNe, Nat.reduceDiv, Nat.reduceMod, ci2, outD]
    refine kont_hax cx_ok hb 200 mixed [(0, true), (1, true), (2, true), (3, true), (4, true), (5, true), (6, true), (7, true), (8, true), (9, true), (10, true)] (by kernel_rfl) (by kernel_rfl) ?_
    simp only [go_sem, Nat.reduceAdd, Nat.reduceSub, Nat.reduceMul, Nat.reduceBEq, Nat.reduceLT, Nat.reduceLeDiff, Nat.reduceEqDiff, Int.reduceToNat, Int.reduceLE, Int.reduceLT, Int.reduceAdd, Int.reduceSub, Int.reduceNeg, Int.reduceBEq, Int.reduceBNe, Nat.reduceBNe, Nat.reduceDiv, Nat.reduceMod, ci2, s, tmodB, e1, e3, e4]
    repeat (refine And.intro (by first | assumption | omega) ?_)
    refine ⟨_, Weak.to 4 (by (simp only [go_sem, Nat.reduceAdd, Nat.reduceSub, Nat.reduceMul, Nat.reduceBEq, Nat.reduceLT, Nat.reduceLeDiff, Nat.reduceEqDiff, Int.reduceToNat, Int.reduceLE, Int.reduceLT, Int.reduceAdd, Int.reduceSub, Int.reduceNeg, Int.reduceBEq, Int.reduceBNe, Nat.reduceBNe, Nat.reduceDiv, Nat.reduceMod, ci2, ci3, s, tmodB, e1, e3, e4, Int.reduceAdd, wi3, outD]) <;> simp), ForS.mk (γ) (trivial)⟩
  · have g1 := l3 a
    have g2 := l3 b
    have g3 := hc 3
    have s := sub_digit (d3 a) (d3 b) (bwD a b 3) g1 g2 g3
    have e1 : (d3 a + 4294967296 - d3 b - bwD a b 3) % 4294967296 = d3 (a + 2 ^ 128 - b) := by
      simp only [d3, bwD]; (try split) <;> omega
    have e2 : 1 - (d3 a + 4294967296 - d3 b - bwD a b 3) / 4294967296 = bwD a b 4 := by
      simp only [d3, bwD]; (repeat' split) <;> omega
    have e3 := tdivB (d3 a + 4294967296 - d3 b - bwD a b 3) (by omega)
    have e4 := one_less ((d3 a + 4294967296 - d3 b - bwD a b 3) / 4294967296) (by omega)
    rw [e2] at e4
    refine kont_of_hx cx_ok hb 200 ?_
    simp only [go_sem, Nat.reduceAdd, Nat.reduceSub, Nat.reduceMul, Nat.reduceBEq, Nat.reduceLT, Nat.reduceLeDiff, Nat.reduceEqDiff, Int.reduceToNat, Int.reduceLE, Int.reduceLT, Int.reduceAdd, Int.reduceSub, Int.reduceNeg, Int.reduceBEq, Int.reduceBNe, Nat.reduceBNe, Nat.reduceDiv, Nat.reduceMod, ci3, outD]
    refine kont_hax cx_ok hb 200 mixed [(0, true), (1, true), (2, true), (3, true), (4, true), (5, true), (6, true), (7, true), (8, true), (9, true), (10, true)] (by kernel_rfl) (by kernel_rfl) ?_
    simp only [go_sem, Nat.reduceAdd, Nat.reduceSub, Nat.reduceMul, Nat.reduceBEq, Nat.reduceLT, Nat.reduceLeDiff, Nat.reduceEqDiff, Int.reduceToNat, Int.reduceLE, Int.reduceLT, Int.reduceAdd, Int.reduceSub, Int.reduceNeg, Int.reduceBEq, Int.reduceBNe, Nat.reduceBNe, Nat.reduceDiv, Nat.reduceMod, ci3, s, tmodB, e1, e3, e4]
    repeat (refine And.intro (by first | assumption | omega) ?_)
    refine ⟨_, Weak.to 4 (by (simp only [go_sem, Nat.reduceAdd, Nat.reduceSub, Nat.reduceMul, Nat.reduceBEq, Nat.reduceLT, Nat.reduceLeDiff, Nat.reduceEqDiff, Int.reduceToNat, Int.reduceLE, Int.reduceLT, Int.reduceAdd, Int.reduceSub, Int.reduceNeg, Int.reduceBEq, Int.reduceBNe, Nat.reduceBNe, Nat.reduceDiv, Nat.reduceMod, ci3, ci4, s, tmodB, e1, e3, e4, Int.reduceAdd, wi4, outD]) <;> simp), ForS.mk (γ) (trivial)⟩
  · refine kont_of_hx cx_ok hb 200 ?_
    simp only [go_sem, Nat.reduceAdd, Nat.reduceSub, Nat.reduceMul, Nat.reduceBEq, Nat.reduceLT, Nat.reduceLeDiff, Nat.reduceEqDiff, Int.reduceToNat, Int.reduceLE, Int.reduceLT, Int.reduceAdd, Int.reduceSub, Int.reduceNeg, Int.reduceBEq, Int.reduceBNe, Nat.reduceBNe, Nat.reduceDiv, Nat.reduceMod, ci4, outD]
    refine kont_of_hx cx_ok hb 200 ?_
    simp only [go_sem, Nat.reduceAdd, Nat.reduceSub, Nat.reduceMul, Nat.reduceBEq, Nat.reduceLT, Nat.reduceLeDiff, Nat.reduceEqDiff, Int.reduceToNat, Int.reduceLE, Int.reduceLT, Int.reduceAdd, Int.reduceSub, Int.reduceNeg, Int.reduceBEq, Int.reduceBNe, Nat.reduceBNe, Nat.reduceDiv, Nat.reduceMod]
end Go.Fg.X
namespace Go.Fg.X
open Go.Proofs Go.Fg
set_option maxRecDepth 100000
set_option maxHeartbeats 4000000
set_option linter.unusedSimpArgs false
set_option linter.unusedVariables false
theorem rtwice_ok (a b : Nat) (ha : a < 2 ^ 127) (hb : b < 18446744073709551616) : AFn Tryz.prog 125 [dg a, u64 b] (Ret (dg (a + a + b))) := by
  refine AFn_hxk 0 cx_ok 200 Tryz.func125 rfl Tryz.ntmps125 Tryz.results125 rfl fun base w hb => ?_
  simp only [go_sem, Nat.reduceAdd, Nat.reduceSub, Nat.reduceMul, Nat.reduceBEq, Nat.reduceLT, Nat.reduceLeDiff, Nat.reduceEqDiff, Int.reduceToNat, Int.reduceLE, Int.reduceLT, Int.reduceAdd, Int.reduceSub, Int.reduceNeg, Int.reduceBEq, Int.reduceBNe, Nat.reduceBNe, Nat.reduceDiv, Nat.reduceMod]
  refine kont_call hb fn92 rfl ?_ (rplus_ok a a (by omega) (by omega)) (Ret.flat rfl) rfl fun d h hR => ?_
  · simp only [go_sem, Nat.reduceAdd, Nat.reduceSub, Nat.reduceMul, Nat.reduceBEq, Nat.reduceLT, Nat.reduceLeDiff, Nat.reduceEqDiff, Int.reduceToNat, Int.reduceLE, Int.reduceLT, Int.reduceAdd, Int.reduceSub, Int.reduceNeg, Int.reduceBEq, Int.reduceBNe, Nat.reduceBNe, Nat.reduceDiv, Nat.reduceMod]
  obtain ⟨rfl, rfl⟩ := hR
  refine kont_of_hx cx_ok hb 200 ?_
  simp only [go_sem, Nat.reduceAdd, Nat.reduceSub, Nat.reduceMul, Nat.reduceBEq, Nat.reduceLT, Nat.reduceLeDiff, Nat.reduceEqDiff, Int.reduceToNat, Int.reduceLE, Int.reduceLT, Int.reduceAdd, Int.reduceSub, Int.reduceNeg, Int.reduceBEq, Int.reduceBNe, Nat.reduceBNe, Nat.reduceDiv, Nat.reduceMod]
  refine kont_call hb fn94 rfl ?_ (rof_ok b ‹_›) (Ret.flat rfl) rfl fun d h hR => ?_
  · simp only [go_sem, Nat.reduceAdd, Nat.reduceSub, Nat.reduceMul, Nat.reduceBEq, Nat.reduceLT, Nat.reduceLeDiff, Nat.reduceEqDiff, Int.reduceToNat, Int.reduceLE, Int.reduceLT, Int.reduceAdd, Int.reduceSub, Int.reduceNeg, Int.reduceBEq, Int.reduceBNe, Nat.reduceBNe, Nat.reduceDiv, Nat.reduceMod]
  obtain ⟨rfl, rfl⟩ := hR
  refine kont_of_hx cx_ok hb 200 ?_
  simp only [go_sem, Nat.reduceAdd, Nat.reduceSub, Nat.reduceMul, Nat.reduceBEq, Nat.reduceLT, Nat.reduceLeDiff, Nat.reduceEqDiff, Int.reduceToNat, Int.reduceLE, Int.reduceLT, Int.reduceAdd, Int.reduceSub, Int.reduceNeg, Int.reduceBEq, Int.reduceBNe, Nat.reduceBNe, Nat.reduceDiv, Nat.reduceMod]
  refine kont_call hb fn92 rfl ?_ (rplus_ok (a + a) b (by omega) (by omega)) (Ret.flat rfl) rfl fun d h hR => ?_
  · simp only [go_sem, Nat.reduceAdd, Nat.reduceSub, Nat.reduceMul, Nat.reduceBEq, Nat.reduceLT, Nat.reduceLeDiff, Nat.reduceEqDiff, Int.reduceToNat, Int.reduceLE, Int.reduceLT, Int.reduceAdd, Int.reduceSub, Int.reduceNeg, Int.reduceBEq, Int.reduceBNe, Nat.reduceBNe, Nat.reduceDiv, Nat.reduceMod]
  obtain ⟨rfl, rfl⟩ := hR
  refine kont_of_hx cx_ok hb 200 ?_
  simp only [go_sem, Nat.reduceAdd, Nat.reduceSub, Nat.reduceMul, Nat.reduceBEq, Nat.reduceLT, Nat.reduceLeDiff, Nat.reduceEqDiff, Int.reduceToNat, Int.reduceLE, Int.reduceLT, Int.reduceAdd, Int.reduceSub, Int.reduceNeg, Int.reduceBEq, Int.reduceBNe, Nat.reduceBNe, Nat.reduceDiv, Nat.reduceMod]
theorem half (n : Nat) (h : n < 18446744073709551616) : IntKind.u64.wrap (((n : Int)).tdiv 2) = ((n / 2 : Nat) : Int) := by
  rw [show (2 : Int) = ((2 : Nat) : Int) from rfl, ← Int.ofNat_tdiv, IntKind.wrap_u64]; omega
theorem tmod2 (n : Nat) : ((n : Int)).tmod 2 = ((n % 2 : Nat) : Int) := by
  rw [show (2 : Int) = ((2 : Nat) : Int) from rfl, ← Int.ofNat_tmod]
theorem tmod32 (n : Nat) : ((n : Int)).tmod 32 = ((n % 32 : Nat) : Int) := by
  rw [show (32 : Int) = ((32 : Nat) : Int) from rfl, ← Int.ofNat_tmod]
theorem tdiv32 (n : Nat) (h : n < 128) : IntKind.i64.wrap (((n : Int)).tdiv 32) = ((n / 32 : Nat) : Int) := by
  rw [show (32 : Int) = ((32 : Nat) : Int) from rfl, ← Int.ofNat_tdiv, wrap64 (by omega) (by omega)]
theorem bit_low (x r : Nat) (hr : r < 32) : x % 4294967296 / 2 ^ r % 2 = x / 2 ^ r % 2 := by
  have e : (4294967296 : Nat) = 2 ^ r * 2 ^ (32 - r) := by rw [← Nat.pow_add, show r + (32 - r) = 32 by omega]
  rw [e, Nat.mod_mul_right_div_self, Nat.mod_mod_of_dvd]
  exact Nat.dvd_of_pow_dvd (show 1 ≤ 32 - r by omega) (Nat.dvd_refl _)
theorem bit_of (a q r d : Nat) (D : Nat) (hr : r < 32) (hD : D = 2 ^ (32 * q)) (hd : d = a / D % 4294967296) : d / 2 ^ r % 2 = a / 2 ^ (32 * q + r) % 2 := by
  rw [hd, bit_low _ _ hr, hD, Nat.div_div_eq_div_mul, ← Nat.pow_add]
theorem rbit_ok (a i : Nat) (hi : i < 128) : AFn Tryz.prog 126 [dg a, dint i] (Ret (u64 (a / 2 ^ i % 2))) := by
  obtain ⟨q, r, d, hq, hr, hd, hbit⟩ : ∃ q r d : Nat, q = i / 32 ∧ r = i % 32 ∧ (d < 4294967296 ∧ ((q = 0 ∧ d = d0 a) ∨ (q = 1 ∧ d = d1 a) ∨ (q = 2 ∧ d = d2 a) ∨ (q = 3 ∧ d = d3 a))) ∧ d / 2 ^ r % 2 = a / 2 ^ i % 2 := by
    have hq : i / 32 = 0 ∨ i / 32 = 1 ∨ i / 32 = 2 ∨ i / 32 = 3 := by omega
    rcases hq with h | h | h | h
    · refine ⟨_, _, d0 a, rfl, rfl, ⟨d0_lt a, .inl ⟨h, rfl⟩⟩, ?_⟩
      rw [bit_of a 0 (i % 32) (d0 a) 1 (by omega) rfl (by simp [d0])]; congr 3; omega
    · refine ⟨_, _, d1 a, rfl, rfl, ⟨d1_lt a, .inr (.inl ⟨h, rfl⟩)⟩, ?_⟩
      rw [bit_of a 1 (i % 32) (d1 a) _ (by omega) rfl rfl]; congr 3; omega
    · refine ⟨_, _, d2 a, rfl, rfl, ⟨d2_lt a, .inr (.inr (.inl ⟨h, rfl⟩))⟩, ?_⟩
      rw [bit_of a 2 (i % 32) (d2 a) _ (by omega) rfl rfl]; congr 3; omega
    · refine ⟨_, _, d3 a, rfl, rfl, ⟨d3_lt a, .inr (.inr (.inr ⟨h, rfl⟩))⟩, ?_⟩
      rw [bit_of a 3 (i % 32) (d3 a) _ (by omega) rfl rfl]; congr 3; omega
  refine AFn_hxk 0 cx_ok 200 Tryz.func126 rfl Tryz.ntmps126 Tryz.results126 rfl fun base w hb => ?_
  simp only [go_sem, Nat.reduceAdd, Nat.reduceSub, Nat.reduceMul, Nat.reduceBEq, Nat.reduceLT, Nat.reduceLeDiff, Nat.reduceEqDiff, Int.reduceToNat, Int.reduceLE, Int.reduceLT, Int.reduceAdd, Int.reduceSub, Int.reduceNeg, Int.reduceBEq, Int.reduceBNe, Nat.reduceBNe, Nat.reduceDiv, Nat.reduceMod]
  have t1 := tdiv32 i hi
  have t2 := tmod32 i
  rw [← hq] at t1
  rw [← hr] at t2
  have hv : (List.drop (((q : Nat) : Int).toNat * 1) [D.raw (Value.int IntKind.u64 ↑(d0 a)), D.raw (Value.int IntKind.u64 ↑(d1 a)), D.raw (Value.int IntKind.u64 ↑(d2 a)), D.raw (Value.int IntKind.u64 ↑(d3 a))]).getD 0 D.undef = D.raw (Value.int IntKind.u64 (d : Int)) := by
    rcases hd.2 with ⟨rfl, rfl⟩ | ⟨rfl, rfl⟩ | ⟨rfl, rfl⟩ | ⟨rfl, rfl⟩ <;> rfl
  simp only [t1, t2, hv]
  refine ⟨by decide, ⟨by omega, by omega⟩, by omega, by decide, ?_⟩
  have i1 : d / 2 ^ 0 = d := by rw [Nat.pow_zero, Nat.div_one]
  refine kont_forF (G := Nat) [11] (fun k => True) (fun k γ => [(5, u64 (d / 2 ^ k)), (12, dint k)]) (fun k γ => []) (r) (0) rfl (Weak.to 0 (by (simp only [go_sem, Nat.reduceAdd, Nat.reduceSub, Nat.reduceMul, Nat.reduceBEq, Nat.reduceLT, Nat.reduceLeDiff, Nat.reduceEqDiff, Int.reduceToNat, Int.reduceLE, Int.reduceLT, Int.reduceAdd, Int.reduceSub, Int.reduceNeg, Int.reduceBEq, Int.reduceBNe, Nat.reduceBNe, Nat.reduceDiv, Nat.reduceMod, i1]) <;> simp)) trivial ?_
  intro k γ hk _
  refine kont_of_hx cx_ok hb 200 ?_
  simp only [go_sem, Nat.reduceAdd, Nat.reduceSub, Nat.reduceMul, Nat.reduceBEq, Nat.reduceLT, Nat.reduceLeDiff, Nat.reduceEqDiff, Int.reduceToNat, Int.reduceLE, Int.reduceLT, Int.reduceAdd, Int.reduceSub, Int.reduceNeg, Int.reduceBEq, Int.reduceBNe, Nat.reduceBNe, Nat.reduceDiv, Nat.reduceMod]
  have hwr := wrap_succ (show k < 4611686018427387904 by omega)
  have hd1 := hd.1
  have hle : d / 2 ^ k ≤ d := Nat.div_le_self _ _
  have hh := half (d / 2 ^ k) (by omega)
  rw [Nat.div_div_eq_div_mul, ← Nat.pow_succ] at hh
  first | refine hite_lt hk (fun hk1 => ?_) (fun hk1 => ?_) | refine hite_ltI hk (fun hk1 => ?_) (fun hk1 => ?_)
  · simp only [go_sem, Nat.reduceAdd, Nat.reduceSub, Nat.reduceMul, Nat.reduceBEq, Nat.reduceLT, Nat.reduceLeDiff, Nat.reduceEqDiff, Int.reduceToNat, Int.reduceLE, Int.reduceLT, Int.reduceAdd, Int.reduceSub, Int.reduceNeg, Int.reduceBEq, Int.reduceBNe, Nat.reduceBNe, Nat.reduceDiv, Nat.reduceMod, hk1, decide_true, hh]
    repeat (refine And.intro (by first | assumption | omega) ?_)
    refine ⟨_, Weak.to 0 (by (simp only [go_sem, Nat.reduceAdd, Nat.reduceSub, Nat.reduceMul, Nat.reduceBEq, Nat.reduceLT, Nat.reduceLeDiff, Nat.reduceEqDiff, Int.reduceToNat, Int.reduceLE, Int.reduceLT, Int.reduceAdd, Int.reduceSub, Int.reduceNeg, Int.reduceBEq, Int.reduceBNe, Nat.reduceBNe, Nat.reduceDiv, Nat.reduceMod, hwr, hh]) <;> simp), ForS.mk (γ) (trivial)⟩
  · simp only [go_sem, Nat.reduceAdd, Nat.reduceSub, Nat.reduceMul, Nat.reduceBEq, Nat.reduceLT, Nat.reduceLeDiff, Nat.reduceEqDiff, Int.reduceToNat, Int.reduceLE, Int.reduceLT, Int.reduceAdd, Int.reduceSub, Int.reduceNeg, Int.reduceBEq, Int.reduceBNe, Nat.reduceBNe, Nat.reduceDiv, Nat.reduceMod, hk1, Nat.lt_irrefl, decide_false]
    refine kont_of_hx cx_ok hb 200 ?_
    simp only [go_sem, Nat.reduceAdd, Nat.reduceSub, Nat.reduceMul, Nat.reduceBEq, Nat.reduceLT, Nat.reduceLeDiff, Nat.reduceEqDiff, Int.reduceToNat, Int.reduceLE, Int.reduceLT, Int.reduceAdd, Int.reduceSub, Int.reduceNeg, Int.reduceBEq, Int.reduceBNe, Nat.reduceBNe, Nat.reduceDiv, Nat.reduceMod, tmod2]
    rw [← hbit]
    exact ⟨by decide, rfl⟩
end Go.Fg.X
namespace Go.Fg.X
open Go.Proofs Go.Fg
set_option maxRecDepth 100000
set_option maxHeartbeats 4000000
set_option linter.unusedSimpArgs false
set_option linter.unusedVariables false
theorem dg_add (x y : Nat) (h : x = y + 2 ^ 128) : d0 x = d0 y ∧ d1 x = d1 y ∧ d2 x = d2 y ∧ d3 x = d3 y := by
  subst h; simp only [d0, d1, d2, d3]; exact ⟨by omega, by omega, by omega, by omega⟩
theorem bit_step (a k : Nat) (hk : k < 128) : a / 2 ^ (128 - (k + 1)) = 2 * (a / 2 ^ (128 - k)) + a / 2 ^ (127 - k) % 2 := by
  have e1 : 128 - (k + 1) = 127 - k := by omega
  have e2 : 128 - k = 127 - k + 1 := by omega
  rw [e1, e2, Nat.pow_succ, ← Nat.div_div_eq_div_mul]
  omega
theorem dT_half (a k : Nat) (ha : a < 2 ^ 128) (hk : k < 128) : dT a k < 2 ^ 127 := by
  have e2 : 128 - k = 127 - k + 1 := by omega
  unfold dT
  rw [e2, Nat.pow_succ, ← Nat.div_div_eq_div_mul]
  have := Nat.div_le_self a (2 ^ (127 - k))
  omega
theorem rquo_ok (a b : Nat) (ha : a < 2 ^ 128) (hb : b < 18446744073709551616) (hb0 : 0 < b) : AFn Tryz.prog 117 [dg a, u64 b] (Ret (.tup [dg (a / b), u64 (a % b)])) := by
  refine AFn_hxk 0 cx_ok 200 Tryz.func117 rfl Tryz.ntmps117 Tryz.results117 rfl fun base w hb => ?_
  simp only [go_sem, Nat.reduceAdd, Nat.reduceSub, Nat.reduceMul, Nat.reduceBEq, Nat.reduceLT, Nat.reduceLeDiff, Nat.reduceEqDiff, Int.reduceToNat, Int.reduceLE, Int.reduceLT, Int.reduceAdd, Int.reduceSub, Int.reduceNeg, Int.reduceBEq, Int.reduceBNe, Nat.reduceBNe, Nat.reduceDiv, Nat.reduceMod]
  have i2 : dT a 0 = 0 := Nat.div_eq_of_lt ha
  have z0 : d0 0 = 0 := rfl
  have z1 : d1 0 = 0 := rfl
  have z2 : d2 0 = 0 := rfl
  have z3 : d3 0 = 0 := rfl
  refine kont_forF (G := Nat) [1, 2, 4, 6, 7] (fun k => True) (fun k γ => [(11, dint k)]) (fun k γ => [⟨.one, 0, 4, 1, fun _ => [u64 (d0 a), u64 (d1 a), u64 (d2 a), u64 (d3 a)]⟩, ⟨.one, 0, 4, 1, fun _ => [u64 0, u64 0, u64 0, u64 0]⟩, ⟨.one, 0, 4, 1, fun _ => [u64 (d0 (dT a k / b)), u64 (d1 (dT a k / b)), u64 (d2 (dT a k / b)), u64 (d3 (dT a k / b))]⟩, ⟨.one, 0, 4, 1, fun _ => [u64 (d0 (dT a k % b)), u64 (d1 (dT a k % b)), u64 (d2 (dT a k % b)), u64 (d3 (dT a k % b))]⟩]) (128) (0) rfl (Weak.to 4 (by (simp only [go_sem, Nat.reduceAdd, Nat.reduceSub, Nat.reduceMul, Nat.reduceBEq, Nat.reduceLT, Nat.reduceLeDiff, Nat.reduceEqDiff, Int.reduceToNat, Int.reduceLE, Int.reduceLT, Int.reduceAdd, Int.reduceSub, Int.reduceNeg, Int.reduceBEq, Int.reduceBNe, Nat.reduceBNe, Nat.reduceDiv, Nat.reduceMod, i2, Nat.zero_div, Nat.zero_mod, z0, z1, z2, z3]) <;> simp)) trivial ?_
  intro k γ hk _
  replace hk : k ≤ 128 := hk
  refine kont_of_hx cx_ok hb 200 ?_
  simp only [go_sem, Nat.reduceAdd, Nat.reduceSub, Nat.reduceMul, Nat.reduceBEq, Nat.reduceLT, Nat.reduceLeDiff, Nat.reduceEqDiff, Int.reduceToNat, Int.reduceLE, Int.reduceLT, Int.reduceAdd, Int.reduceSub, Int.reduceNeg, Int.reduceBEq, Int.reduceBNe, Nat.reduceBNe, Nat.reduceDiv, Nat.reduceMod]
  have hwr := wrap_succ (show k < 4611686018427387904 by omega)
  first | refine hite_lt hk (fun hk1 => ?_) (fun hk1 => ?_) | refine hite_ltI hk (fun hk1 => ?_) (fun hk1 => ?_)
  · replace hk1 : k < 128 := hk1
    have hlt : decide ((k : Int) < 128) = true := by simp; omega
    have t1 : dT a (k + 1) = 2 * dT a k + a / 2 ^ (127 - k) % 2 := bit_step a k hk1
    have t3 := div_step (dT a k) b (a / 2 ^ (127 - k) % 2) hb0 (by omega)
    have t4 := Nat.mod_lt (dT a k) hb0
    have t5 := dT_half a k ha hk1
    rw [← t1] at t3
    have t8 : dT a k / b < 2 ^ 127 := Nat.lt_of_le_of_lt (Nat.div_le_self _ _) t5
    have hw7 : IntKind.i64.wrap (127 - (k : Int)) = ((127 - k : Nat) : Int) := by rw [wrap64 (by omega) (by omega)]; omega
    simp only [go_sem, Nat.reduceAdd, Nat.reduceSub, Nat.reduceMul, Nat.reduceBEq, Nat.reduceLT, Nat.reduceLeDiff, Nat.reduceEqDiff, Int.reduceToNat, Int.reduceLE, Int.reduceLT, Int.reduceAdd, Int.reduceSub, Int.reduceNeg, Int.reduceBEq, Int.reduceBNe, Nat.reduceBNe, Nat.reduceDiv, Nat.reduceMod, hlt]
    refine kont_hax cx_ok hb 200 mixed [(0, true), (1, true), (2, true), (3, true), (4, false), (5, false), (6, false)] (by kernel_rfl) (by kernel_rfl) ?_
    simp only [go_sem, Nat.reduceAdd, Nat.reduceSub, Nat.reduceMul, Nat.reduceBEq, Nat.reduceLT, Nat.reduceLeDiff, Nat.reduceEqDiff, Int.reduceToNat, Int.reduceLE, Int.reduceLT, Int.reduceAdd, Int.reduceSub, Int.reduceNeg, Int.reduceBEq, Int.reduceBNe, Nat.reduceBNe, Nat.reduceDiv, Nat.reduceMod, hw7]
    have hM : 2 * (dT a k % b) + a / 2 ^ (127 - k) % 2 = dT a k % b + dT a k % b + a / 2 ^ (127 - k) % 2 := by omega
    refine AX_call hb fn126 rfl ?_ (rbit_ok a (127 - k) (by omega)) (Ret.flat rfl) rfl fun d h hR => ?_
    · simp only [go_sem, Nat.reduceAdd, Nat.reduceSub, Nat.reduceMul, Nat.reduceBEq, Nat.reduceLT, Nat.reduceLeDiff, Nat.reduceEqDiff, Int.reduceToNat, Int.reduceLE, Int.reduceLT, Int.reduceAdd, Int.reduceSub, Int.reduceNeg, Int.reduceBEq, Int.reduceBNe, Nat.reduceBNe, Nat.reduceDiv, Nat.reduceMod]
    obtain ⟨rfl, rfl⟩ := hR
    refine AX_of_hax cx_ok hb ?_
    simp only [go_sem, Nat.reduceAdd, Nat.reduceSub, Nat.reduceMul, Nat.reduceBEq, Nat.reduceLT, Nat.reduceLeDiff, Nat.reduceEqDiff, Int.reduceToNat, Int.reduceLE, Int.reduceLT, Int.reduceAdd, Int.reduceSub, Int.reduceNeg, Int.reduceBEq, Int.reduceBNe, Nat.reduceBNe, Nat.reduceDiv, Nat.reduceMod]
    refine AX_call hb fn125 rfl ?_ (rtwice_ok (dT a k % b) (a / 2 ^ (127 - k) % 2) (by omega) (by omega)) (Ret.flat rfl) rfl fun d h hR => ?_
    · simp only [go_sem, Nat.reduceAdd, Nat.reduceSub, Nat.reduceMul, Nat.reduceBEq, Nat.reduceLT, Nat.reduceLeDiff, Nat.reduceEqDiff, Int.reduceToNat, Int.reduceLE, Int.reduceLT, Int.reduceAdd, Int.reduceSub, Int.reduceNeg, Int.reduceBEq, Int.reduceBNe, Nat.reduceBNe, Nat.reduceDiv, Nat.reduceMod]
    obtain ⟨rfl, rfl⟩ := hR
    refine AX_of_hax cx_ok hb ?_
    simp only [go_sem, Nat.reduceAdd, Nat.reduceSub, Nat.reduceMul, Nat.reduceBEq, Nat.reduceLT, Nat.reduceLeDiff, Nat.reduceEqDiff, Int.reduceToNat, Int.reduceLE, Int.reduceLT, Int.reduceAdd, Int.reduceSub, Int.reduceNeg, Int.reduceBEq, Int.reduceBNe, Nat.reduceBNe, Nat.reduceDiv, Nat.reduceMod]
    rw [hM] at t3
    have t6 : dT a k % b + dT a k % b + a / 2 ^ (127 - k) % 2 < 2 ^ 127 := by omega
    generalize hR : dT a k % b + dT a k % b + a / 2 ^ (127 - k) % 2 = R at *
    refine kont_hax cx_ok hb 200 mixed [(0, true), (1, true), (2, false), (3, false)] (by kernel_rfl) (by kernel_rfl) ?_
    simp only [go_sem, Nat.reduceAdd, Nat.reduceSub, Nat.reduceMul, Nat.reduceBEq, Nat.reduceLT, Nat.reduceLeDiff, Nat.reduceEqDiff, Int.reduceToNat, Int.reduceLE, Int.reduceLT, Int.reduceAdd, Int.reduceSub, Int.reduceNeg, Int.reduceBEq, Int.reduceBNe, Nat.reduceBNe, Nat.reduceDiv, Nat.reduceMod]
    refine AX_call hb fn94 rfl ?_ (rof_ok b ‹_›) (Ret.flat rfl) rfl fun d h hR => ?_
    · simp only [go_sem, Nat.reduceAdd, Nat.reduceSub, Nat.reduceMul, Nat.reduceBEq, Nat.reduceLT, Nat.reduceLeDiff, Nat.reduceEqDiff, Int.reduceToNat, Int.reduceLE, Int.reduceLT, Int.reduceAdd, Int.reduceSub, Int.reduceNeg, Int.reduceBEq, Int.reduceBNe, Nat.reduceBNe, Nat.reduceDiv, Nat.reduceMod]
    obtain ⟨rfl, rfl⟩ := hR
    refine AX_of_hax cx_ok hb ?_
    simp only [go_sem, Nat.reduceAdd, Nat.reduceSub, Nat.reduceMul, Nat.reduceBEq, Nat.reduceLT, Nat.reduceLeDiff, Nat.reduceEqDiff, Int.reduceToNat, Int.reduceLE, Int.reduceLT, Int.reduceAdd, Int.reduceSub, Int.reduceNeg, Int.reduceBEq, Int.reduceBNe, Nat.reduceBNe, Nat.reduceDiv, Nat.reduceMod]
    refine AX_call hb fn57 rfl ?_ (less_ok R b (by omega) (by omega)) (Ret.flat rfl) rfl fun d h hR => ?_
    · simp only [go_sem, Nat.reduceAdd, Nat.reduceSub, Nat.reduceMul, Nat.reduceBEq, Nat.reduceLT, Nat.reduceLeDiff, Nat.reduceEqDiff, Int.reduceToNat, Int.reduceLE, Int.reduceLT, Int.reduceAdd, Int.reduceSub, Int.reduceNeg, Int.reduceBEq, Int.reduceBNe, Nat.reduceBNe, Nat.reduceDiv, Nat.reduceMod]
    obtain ⟨rfl, rfl⟩ := hR
    refine AX_of_hax cx_ok hb ?_
    simp only [go_sem, Nat.reduceAdd, Nat.reduceSub, Nat.reduceMul, Nat.reduceBEq, Nat.reduceLT, Nat.reduceLeDiff, Nat.reduceEqDiff, Int.reduceToNat, Int.reduceLE, Int.reduceLT, Int.reduceAdd, Int.reduceSub, Int.reduceNeg, Int.reduceBEq, Int.reduceBNe, Nat.reduceBNe, Nat.reduceDiv, Nat.reduceMod]
    by_cases hge : b ≤ R
    · obtain ⟨q1, q2⟩ := t3.1 hge
      have hc : decide (R < b) = false := by simp; omega
      have e1 : dT a k / b + dT a k / b + 1 = dT a (k + 1) / b := by omega
      have e2 := dg_add (R + 2 ^ 128 - b) (dT a (k + 1) % b) (by omega)
      simp only [go_sem, Nat.reduceAdd, Nat.reduceSub, Nat.reduceMul, Nat.reduceBEq, Nat.reduceLT, Nat.reduceLeDiff, Nat.reduceEqDiff, Int.reduceToNat, Int.reduceLE, Int.reduceLT, Int.reduceAdd, Int.reduceSub, Int.reduceNeg, Int.reduceBEq, Int.reduceBNe, Nat.reduceBNe, Nat.reduceDiv, Nat.reduceMod, hc]
      refine kont_hax cx_ok hb 200 mixed [(0, true), (1, true), (2, false), (3, false), (4, false)] (by kernel_rfl) (by kernel_rfl) ?_
      simp only [go_sem, Nat.reduceAdd, Nat.reduceSub, Nat.reduceMul, Nat.reduceBEq, Nat.reduceLT, Nat.reduceLeDiff, Nat.reduceEqDiff, Int.reduceToNat, Int.reduceLE, Int.reduceLT, Int.reduceAdd, Int.reduceSub, Int.reduceNeg, Int.reduceBEq, Int.reduceBNe, Nat.reduceBNe, Nat.reduceDiv, Nat.reduceMod]
      refine AX_call hb fn94 rfl ?_ (rof_ok b ‹_›) (Ret.flat rfl) rfl fun d h hR => ?_
      · simp only [go_sem, Nat.reduceAdd, Nat.reduceSub, Nat.reduceMul, Nat.reduceBEq, Nat.reduceLT, Nat.reduceLeDiff, Nat.reduceEqDiff, Int.reduceToNat, Int.reduceLE, Int.reduceLT, Int.reduceAdd, Int.reduceSub, Int.reduceNeg, Int.reduceBEq, Int.reduceBNe, Nat.reduceBNe, Nat.reduceDiv, Nat.reduceMod]
      obtain ⟨rfl, rfl⟩ := hR
      refine AX_of_hax cx_ok hb ?_
      simp only [go_sem, Nat.reduceAdd, Nat.reduceSub, Nat.reduceMul, Nat.reduceBEq, Nat.reduceLT, Nat.reduceLeDiff, Nat.reduceEqDiff, Int.reduceToNat, Int.reduceLE, Int.reduceLT, Int.reduceAdd, Int.reduceSub, Int.reduceNeg, Int.reduceBEq, Int.reduceBNe, Nat.reduceBNe, Nat.reduceDiv, Nat.reduceMod]
      refine AX_call hb fn59 rfl ?_ (rminus_ok R b (by omega) (by omega)) (Ret.flat rfl) rfl fun d h hR => ?_
      · simp only [go_sem, Nat.reduceAdd, Nat.reduceSub, Nat.reduceMul, Nat.reduceBEq, Nat.reduceLT, Nat.reduceLeDiff, Nat.reduceEqDiff, Int.reduceToNat, Int.reduceLE, Int.reduceLT, Int.reduceAdd, Int.reduceSub, Int.reduceNeg, Int.reduceBEq, Int.reduceBNe, Nat.reduceBNe, Nat.reduceDiv, Nat.reduceMod, e2.1, e2.2.1, e2.2.2.1, e2.2.2.2]
      obtain ⟨rfl, rfl⟩ := hR
      refine AX_of_hax cx_ok hb ?_
      simp only [go_sem, Nat.reduceAdd, Nat.reduceSub, Nat.reduceMul, Nat.reduceBEq, Nat.reduceLT, Nat.reduceLeDiff, Nat.reduceEqDiff, Int.reduceToNat, Int.reduceLE, Int.reduceLT, Int.reduceAdd, Int.reduceSub, Int.reduceNeg, Int.reduceBEq, Int.reduceBNe, Nat.reduceBNe, Nat.reduceDiv, Nat.reduceMod, e2.1, e2.2.1, e2.2.2.1, e2.2.2.2]
      refine kont_call hb fn125 rfl ?_ (rtwice_ok (dT a k / b) 1 (by omega) (by omega)) (Ret.flat rfl) rfl fun d h hR => ?_
      · simp only [go_sem, Nat.reduceAdd, Nat.reduceSub, Nat.reduceMul, Nat.reduceBEq, Nat.reduceLT, Nat.reduceLeDiff, Nat.reduceEqDiff, Int.reduceToNat, Int.reduceLE, Int.reduceLT, Int.reduceAdd, Int.reduceSub, Int.reduceNeg, Int.reduceBEq, Int.reduceBNe, Nat.reduceBNe, Nat.reduceDiv, Nat.reduceMod, ci1, e1, e2.1, e2.2.1, e2.2.2.1, e2.2.2.2]
      obtain ⟨rfl, rfl⟩ := hR
      refine kont_of_hx cx_ok hb 200 ?_
      simp only [go_sem, Nat.reduceAdd, Nat.reduceSub, Nat.reduceMul, Nat.reduceBEq, Nat.reduceLT, Nat.reduceLeDiff, Nat.reduceEqDiff, Int.reduceToNat, Int.reduceLE, Int.reduceLT, Int.reduceAdd, Int.reduceSub, Int.reduceNeg, Int.reduceBEq, Int.reduceBNe, Nat.reduceBNe, Nat.reduceDiv, Nat.reduceMod, ci1, e1, e2.1, e2.2.1, e2.2.2.1, e2.2.2.2]
      repeat (refine And.intro (by first | assumption | omega) ?_)
      refine ⟨_, Weak.to 4 (by (simp only [go_sem, Nat.reduceAdd, Nat.reduceSub, Nat.reduceMul, Nat.reduceBEq, Nat.reduceLT, Nat.reduceLeDiff, Nat.reduceEqDiff, Int.reduceToNat, Int.reduceLE, Int.reduceLT, Int.reduceAdd, Int.reduceSub, Int.reduceNeg, Int.reduceBEq, Int.reduceBNe, Nat.reduceBNe, Nat.reduceDiv, Nat.reduceMod, hwr, e1, e2.1, e2.2.1, e2.2.2.1, e2.2.2.2]) <;> simp), ForS.mk (γ) (trivial)⟩
    · obtain ⟨q1, q2⟩ := t3.2 (by omega)
      have hc : decide (R < b) = true := by simp; omega
      have e1 : dT a k / b + dT a k / b + 0 = dT a (k + 1) / b := by omega
      simp only [go_sem, Nat.reduceAdd, Nat.reduceSub, Nat.reduceMul, Nat.reduceBEq, Nat.reduceLT, Nat.reduceLeDiff, Nat.reduceEqDiff, Int.reduceToNat, Int.reduceLE, Int.reduceLT, Int.reduceAdd, Int.reduceSub, Int.reduceNeg, Int.reduceBEq, Int.reduceBNe, Nat.reduceBNe, Nat.reduceDiv, Nat.reduceMod, hc]
      refine kont_call hb fn125 rfl ?_ (rtwice_ok (dT a k / b) 0 (by omega) (by omega)) (Ret.flat rfl) rfl fun d h hR => ?_
      · simp only [go_sem, Nat.reduceAdd, Nat.reduceSub, Nat.reduceMul, Nat.reduceBEq, Nat.reduceLT, Nat.reduceLeDiff, Nat.reduceEqDiff, Int.reduceToNat, Int.reduceLE, Int.reduceLT, Int.reduceAdd, Int.reduceSub, Int.reduceNeg, Int.reduceBEq, Int.reduceBNe, Nat.reduceBNe, Nat.reduceDiv, Nat.reduceMod, ci0, e1, ← q2]
      obtain ⟨rfl, rfl⟩ := hR
      refine kont_of_hx cx_ok hb 200 ?_
      simp only [go_sem, Nat.reduceAdd, Nat.reduceSub, Nat.reduceMul, Nat.reduceBEq, Nat.reduceLT, Nat.reduceLeDiff, Nat.reduceEqDiff, Int.reduceToNat, Int.reduceLE, Int.reduceLT, Int.reduceAdd, Int.reduceSub, Int.reduceNeg, Int.reduceBEq, Int.reduceBNe, Nat.reduceBNe, Nat.reduceDiv, Nat.reduceMod, ci0, e1, ← q2]
      repeat (refine And.intro (by first | assumption | omega) ?_)
      refine ⟨_, Weak.to 4 (by (simp only [go_sem, Nat.reduceAdd, Nat.reduceSub, Nat.reduceMul, Nat.reduceBEq, Nat.reduceLT, Nat.reduceLeDiff, Nat.reduceEqDiff, Int.reduceToNat, Int.reduceLE, Int.reduceLT, Int.reduceAdd, Int.reduceSub, Int.reduceNeg, Int.reduceBEq, Int.reduceBNe, Nat.reduceBNe, Nat.reduceDiv, Nat.reduceMod, hwr, e1, ← q2]) <;> simp), ForS.mk (γ) (trivial)⟩
  · have hlt : decide ((k : Int) < 128) = false := by rw [hk1]; rfl
    have e1 : dT a k = a := by rw [hk1]; show a / 2 ^ 0 = a; rw [Nat.pow_zero, Nat.div_one]
    have e2 : a % b < 18446744073709551616 := by have := Nat.mod_lt a hb0; omega
    simp only [go_sem, Nat.reduceAdd, Nat.reduceSub, Nat.reduceMul, Nat.reduceBEq, Nat.reduceLT, Nat.reduceLeDiff, Nat.reduceEqDiff, Int.reduceToNat, Int.reduceLE, Int.reduceLT, Int.reduceAdd, Int.reduceSub, Int.reduceNeg, Int.reduceBEq, Int.reduceBNe, Nat.reduceBNe, Nat.reduceDiv, Nat.reduceMod, hlt, e1]
    refine kont_of_hx cx_ok hb 200 ?_
    simp only [go_sem, Nat.reduceAdd, Nat.reduceSub, Nat.reduceMul, Nat.reduceBEq, Nat.reduceLT, Nat.reduceLeDiff, Nat.reduceEqDiff, Int.reduceToNat, Int.reduceLE, Int.reduceLT, Int.reduceAdd, Int.reduceSub, Int.reduceNeg, Int.reduceBEq, Int.reduceBNe, Nat.reduceBNe, Nat.reduceDiv, Nat.reduceMod]
    refine kont_hax cx_ok hb 200 mixed [(0, true), (1, true), (2, false), (3, false), (4, false)] (by kernel_rfl) (by kernel_rfl) ?_
    simp only [go_sem, Nat.reduceAdd, Nat.reduceSub, Nat.reduceMul, Nat.reduceBEq, Nat.reduceLT, Nat.reduceLeDiff, Nat.reduceEqDiff, Int.reduceToNat, Int.reduceLE, Int.reduceLT, Int.reduceAdd, Int.reduceSub, Int.reduceNeg, Int.reduceBEq, Int.reduceBNe, Nat.reduceBNe, Nat.reduceDiv, Nat.reduceMod]
    refine AX_call hb fn119 rfl ?_ (rlo_ok (a % b) (by omega)) (Ret.flat rfl) rfl fun d h hR => ?_
    · simp only [go_sem, Nat.reduceAdd, Nat.reduceSub, Nat.reduceMul, Nat.reduceBEq, Nat.reduceLT, Nat.reduceLeDiff, Nat.reduceEqDiff, Int.reduceToNat, Int.reduceLE, Int.reduceLT, Int.reduceAdd, Int.reduceSub, Int.reduceNeg, Int.reduceBEq, Int.reduceBNe, Nat.reduceBNe, Nat.reduceDiv, Nat.reduceMod, Nat.mod_eq_of_lt e2]
    obtain ⟨rfl, rfl⟩ := hR
    refine AX_of_hax cx_ok hb ?_
    simp only [go_sem, Nat.reduceAdd, Nat.reduceSub, Nat.reduceMul, Nat.reduceBEq, Nat.reduceLT, Nat.reduceLeDiff, Nat.reduceEqDiff, Int.reduceToNat, Int.reduceLE, Int.reduceLT, Int.reduceAdd, Int.reduceSub, Int.reduceNeg, Int.reduceBEq, Int.reduceBNe, Nat.reduceBNe, Nat.reduceDiv, Nat.reduceMod, Nat.mod_eq_of_lt e2]
def pmD (x y : Nat) : Nat → Nat
  | 0 => 0
  | 1 => d0 x * d0 y
  | 2 => d0 x * d0 y + d0 x * d1 y * 4294967296
  | 3 => d0 x * d0 y + d0 x * d1 y * 4294967296 + d1 x * d0 y * 4294967296
  | _ => d0 x * d0 y + d0 x * d1 y * 4294967296 + d1 x * d0 y * 4294967296 + d1 x * d1 y * 18446744073709551616
theorem rmul_ok (x y : Nat) (hx : x < 18446744073709551616) (hy : y < 18446744073709551616) : AFn Tryz.prog 60 [u64 x, u64 y] (Ret (dg (x * y))) := by
  obtain ⟨P, Q, R, S, hP, hQ, hR, hS, hab, bP, bQ, bR, bS⟩ := mul_parts x y (d1 x) (d0 x) (d1 y) (d0 y) (by unfold d1 d0; omega) (by unfold d1 d0; omega) (d1_lt x) (d0_lt x) (d1_lt y) (d0_lt y)
  have z0 : d0 0 = 0 := rfl
  have z1 : d1 0 = 0 := rfl
  have z2 : d2 0 = 0 := rfl
  have z3 : d3 0 = 0 := rfl
  have hx2 : d2 x = 0 := by unfold d2; omega
  have hx3 : d3 x = 0 := by unfold d3; omega
  have hy2 : d2 y = 0 := by unfold d2; omega
  have hy3 : d3 y = 0 := by unfold d3; omega
  have p0 : pmD x y 0 = 0 := rfl
  have p1 : pmD x y 1 = S := by simp only [pmD, hS]
  have p2 : pmD x y 2 = S + R * 4294967296 := by simp only [pmD, hS, hR]
  have p3 : pmD x y 3 = S + R * 4294967296 + Q * 4294967296 := by simp only [pmD, hS, hR, hQ]
  have p4 : pmD x y 4 = S + R * 4294967296 + Q * 4294967296 + P * 18446744073709551616 := by simp only [pmD, hS, hR, hQ, hP]
  have hend : pmD x y 4 = x * y := by rw [p4, hab]; omega
  refine AFn_hxk 0 cx_ok 200 Tryz.func60 rfl Tryz.ntmps60 Tryz.results60 rfl fun base w hb => ?_
  simp only [go_sem, Nat.reduceAdd, Nat.reduceSub, Nat.reduceMul, Nat.reduceBEq, Nat.reduceLT, Nat.reduceLeDiff, Nat.reduceEqDiff, Int.reduceToNat, Int.reduceLE, Int.reduceLT, Int.reduceAdd, Int.reduceSub, Int.reduceNeg, Int.reduceBEq, Int.reduceBNe, Nat.reduceBNe, Nat.reduceDiv, Nat.reduceMod]
  refine kont_call hb fn94 rfl ?_ (rof_ok x hx) (Ret.flat rfl) rfl fun d h hR => ?_
  · simp only [go_sem, Nat.reduceAdd, Nat.reduceSub, Nat.reduceMul, Nat.reduceBEq, Nat.reduceLT, Nat.reduceLeDiff, Nat.reduceEqDiff, Int.reduceToNat, Int.reduceLE, Int.reduceLT, Int.reduceAdd, Int.reduceSub, Int.reduceNeg, Int.reduceBEq, Int.reduceBNe, Nat.reduceBNe, Nat.reduceDiv, Nat.reduceMod]
  obtain ⟨rfl, rfl⟩ := hR
  refine kont_of_hx cx_ok hb 200 ?_
  simp only [go_sem, Nat.reduceAdd, Nat.reduceSub, Nat.reduceMul, Nat.reduceBEq, Nat.reduceLT, Nat.reduceLeDiff, Nat.reduceEqDiff, Int.reduceToNat, Int.reduceLE, Int.reduceLT, Int.reduceAdd, Int.reduceSub, Int.reduceNeg, Int.reduceBEq, Int.reduceBNe, Nat.reduceBNe, Nat.reduceDiv, Nat.reduceMod]
  refine kont_call hb fn94 rfl ?_ (rof_ok y hy) (Ret.flat rfl) rfl fun d h hR => ?_
  · simp only [go_sem, Nat.reduceAdd, Nat.reduceSub, Nat.reduceMul, Nat.reduceBEq, Nat.reduceLT, Nat.reduceLeDiff, Nat.reduceEqDiff, Int.reduceToNat, Int.reduceLE, Int.reduceLT, Int.reduceAdd, Int.reduceSub, Int.reduceNeg, Int.reduceBEq, Int.reduceBNe, Nat.reduceBNe, Nat.reduceDiv, Nat.reduceMod, hx2, hx3]
  obtain ⟨rfl, rfl⟩ := hR
  refine kont_of_hx cx_ok hb 200 ?_
  simp only [go_sem, Nat.reduceAdd, Nat.reduceSub, Nat.reduceMul, Nat.reduceBEq, Nat.reduceLT, Nat.reduceLeDiff, Nat.reduceEqDiff, Int.reduceToNat, Int.reduceLE, Int.reduceLT, Int.reduceAdd, Int.reduceSub, Int.reduceNeg, Int.reduceBEq, Int.reduceBNe, Nat.reduceBNe, Nat.reduceDiv, Nat.reduceMod, hx2, hx3]
  refine kont_forF (G := Nat) [4, 5, 6, 7] (fun k => True) (fun k γ => [(17, dint k)]) (fun k γ => [⟨.one, 0, 4, 1, fun _ => [u64 0, u64 0, u64 0, u64 0]⟩, ⟨.one, 0, 4, 1, fun _ => [u64 (d0 x), u64 (d1 x), u64 0, u64 0]⟩, ⟨.one, 0, 4, 1, fun _ => [u64 (d0 y), u64 (d1 y), u64 0, u64 0]⟩, ⟨.one, 0, 4, 1, fun _ => [u64 (d0 (pmD x y (2 * k))), u64 (d1 (pmD x y (2 * k))), u64 (d2 (pmD x y (2 * k))), u64 (d3 (pmD x y (2 * k)))]⟩]) (2) (0) rfl (Weak.to 4 (by (simp only [go_sem, Nat.reduceAdd, Nat.reduceSub, Nat.reduceMul, Nat.reduceBEq, Nat.reduceLT, Nat.reduceLeDiff, Nat.reduceEqDiff, Int.reduceToNat, Int.reduceLE, Int.reduceLT, Int.reduceAdd, Int.reduceSub, Int.reduceNeg, Int.reduceBEq, Int.reduceBNe, Nat.reduceBNe, Nat.reduceDiv, Nat.reduceMod, z0, z1, z2, z3, p0, hx2, hx3, hy2, hy3, Nat.mul_zero]) <;> simp)) trivial ?_
  intro k γ hk _
  have hk' : k = 0 ∨ k = 1 ∨ k = 2 := by have : k ≤ 2 := hk; omega
  rcases hk' with rfl | rfl | rfl
  · refine kont_of_hx cx_ok hb 200 ?_
    simp only [go_sem, Nat.reduceAdd, Nat.reduceSub, Nat.reduceMul, Nat.reduceBEq, Nat.reduceLT, Nat.reduceLeDiff, Nat.reduceEqDiff, Int.reduceToNat, Int.reduceLE, Int.reduceLT, Int.reduceAdd, Int.reduceSub, Int.reduceNeg, Int.reduceBEq, Int.reduceBNe, Nat.reduceBNe, Nat.reduceDiv, Nat.reduceMod, ci0]
    refine kont_forF (G := Nat) [4, 5, 6, 7, 8, 17] (fun k => True) (fun k γ => [(20, dint k)]) (fun k γ => [⟨.one, 0, 4, 1, fun _ => [u64 0, u64 0, u64 0, u64 0]⟩, ⟨.one, 0, 4, 1, fun _ => [u64 (d0 x), u64 (d1 x), u64 0, u64 0]⟩, ⟨.one, 0, 4, 1, fun _ => [u64 (d0 y), u64 (d1 y), u64 0, u64 0]⟩, ⟨.one, 0, 4, 1, fun _ => [u64 (d0 (pmD x y (0 + k))), u64 (d1 (pmD x y (0 + k))), u64 (d2 (pmD x y (0 + k))), u64 (d3 (pmD x y (0 + k)))]⟩]) (2) (0) rfl (Weak.to 4 (by (simp only [go_sem, Nat.reduceAdd, Nat.reduceSub, Nat.reduceMul, Nat.reduceBEq, Nat.reduceLT, Nat.reduceLeDiff, Nat.reduceEqDiff, Int.reduceToNat, Int.reduceLE, Int.reduceLT, Int.reduceAdd, Int.reduceSub, Int.reduceNeg, Int.reduceBEq, Int.reduceBNe, Nat.reduceBNe, Nat.reduceDiv, Nat.reduceMod, Nat.add_zero]) <;> simp)) trivial ?_
    intro k γ hk _
    have hk' : k = 0 ∨ k = 1 ∨ k = 2 := by have : k ≤ 2 := hk; omega
    rcases hk' with rfl | rfl | rfl
    · obtain ⟨Z, hZ⟩ : ∃ Z, Z = S * 1 := ⟨_, rfl⟩
      have hp : IntKind.u64.wrap (((d0 x : Nat) : Int) * ((d0 y : Nat) : Int)) = ((S : Nat) : Int) := by rw [wu_mul' _ _ (by rw [← hS]; omega), hS]
      have f0 : d0 Z = S % 4294967296 := by rw [hZ]; unfold d0; omega
      have f1 : d1 Z = S / 4294967296 := by rw [hZ]; unfold d1; omega
      have f2 : d2 Z = 0 := by rw [hZ]; unfold d2; omega
      have f3 : d3 Z = 0 := by rw [hZ]; unfold d3; omega
      have e1 : pmD x y 0 + Z = pmD x y 1 := by have := p0; have := p1; omega
      have e2 : pmD x y 0 < 2 ^ 128 := by have := p0; omega
      have e3 : Z < 2 ^ 128 := by rw [hZ]; omega
      have td := tdivB S (by omega)
      refine kont_of_hx cx_ok hb 200 ?_
      simp only [go_sem, Nat.reduceAdd, Nat.reduceSub, Nat.reduceMul, Nat.reduceBEq, Nat.reduceLT, Nat.reduceLeDiff, Nat.reduceEqDiff, Int.reduceToNat, Int.reduceLE, Int.reduceLT, Int.reduceAdd, Int.reduceSub, Int.reduceNeg, Int.reduceBEq, Int.reduceBNe, Nat.reduceBNe, Nat.reduceDiv, Nat.reduceMod, ci0, Nat.reduceAdd]
      refine kont_hax cx_ok hb 200 mixed [(0, true), (1, true), (2, true), (3, true), (4, true), (5, true), (6, true), (7, true)] (by kernel_rfl) (by kernel_rfl) ?_
      simp only [go_sem, Nat.reduceAdd, Nat.reduceSub, Nat.reduceMul, Nat.reduceBEq, Nat.reduceLT, Nat.reduceLeDiff, Nat.reduceEqDiff, Int.reduceToNat, Int.reduceLE, Int.reduceLT, Int.reduceAdd, Int.reduceSub, Int.reduceNeg, Int.reduceBEq, Int.reduceBNe, Nat.reduceBNe, Nat.reduceDiv, Nat.reduceMod, hp, tmodB, td, wi0, wi1, Int.reduceAdd]
      refine ⟨by decide, by decide, ?_⟩
      refine kont_call hb fn92 rfl ?_ (rplus_ok (pmD x y 0) Z e2 e3) (Ret.flat rfl) rfl fun d h hR => ?_
      · simp only [go_sem, Nat.reduceAdd, Nat.reduceSub, Nat.reduceMul, Nat.reduceBEq, Nat.reduceLT, Nat.reduceLeDiff, Nat.reduceEqDiff, Int.reduceToNat, Int.reduceLE, Int.reduceLT, Int.reduceAdd, Int.reduceSub, Int.reduceNeg, Int.reduceBEq, Int.reduceBNe, Nat.reduceBNe, Nat.reduceDiv, Nat.reduceMod, f0, f1, f2, f3, ci0]
      obtain ⟨rfl, rfl⟩ := hR
      refine kont_of_hx cx_ok hb 200 ?_
      simp only [go_sem, Nat.reduceAdd, Nat.reduceSub, Nat.reduceMul, Nat.reduceBEq, Nat.reduceLT, Nat.reduceLeDiff, Nat.reduceEqDiff, Int.reduceToNat, Int.reduceLE, Int.reduceLT, Int.reduceAdd, Int.reduceSub, Int.reduceNeg, Int.reduceBEq, Int.reduceBNe, Nat.reduceBNe, Nat.reduceDiv, Nat.reduceMod, f0, f1, f2, f3, ci0]
      repeat (refine And.intro (by first | assumption | omega) ?_)
      refine ⟨_, Weak.to 4 (by (simp only [go_sem, Nat.reduceAdd, Nat.reduceSub, Nat.reduceMul, Nat.reduceBEq, Nat.reduceLT, Nat.reduceLeDiff, Nat.reduceEqDiff, Int.reduceToNat, Int.reduceLE, Int.reduceLT, Int.reduceAdd, Int.reduceSub, Int.reduceNeg, Int.reduceBEq, Int.reduceBNe, Nat.reduceBNe, Nat.reduceDiv, Nat.reduceMod, ci0, ci1, Int.reduceAdd, wi1, Nat.reduceAdd, e1]) <;> simp), ForS.mk (γ) (trivial)⟩
    · obtain ⟨Z, hZ⟩ : ∃ Z, Z = R * 4294967296 := ⟨_, rfl⟩
      have hp : IntKind.u64.wrap (((d0 x : Nat) : Int) * ((d1 y : Nat) : Int)) = ((R : Nat) : Int) := by rw [wu_mul' _ _ (by rw [← hR]; omega), hR]
      have f0 : d0 Z = 0 := by rw [hZ]; unfold d0; omega
      have f1 : d1 Z = R % 4294967296 := by rw [hZ]; unfold d1; omega
      have f2 : d2 Z = R / 4294967296 := by rw [hZ]; unfold d2; omega
      have f3 : d3 Z = 0 := by rw [hZ]; unfold d3; omega
      have e1 : pmD x y 1 + Z = pmD x y 2 := by have := p1; have := p2; omega
      have e2 : pmD x y 1 < 2 ^ 128 := by have := p1; omega
      have e3 : Z < 2 ^ 128 := by rw [hZ]; omega
      have td := tdivB R (by omega)
      refine kont_of_hx cx_ok hb 200 ?_
      simp only [go_sem, Nat.reduceAdd, Nat.reduceSub, Nat.reduceMul, Nat.reduceBEq, Nat.reduceLT, Nat.reduceLeDiff, Nat.reduceEqDiff, Int.reduceToNat, Int.reduceLE, Int.reduceLT, Int.reduceAdd, Int.reduceSub, Int.reduceNeg, Int.reduceBEq, Int.reduceBNe, Nat.reduceBNe, Nat.reduceDiv, Nat.reduceMod, ci1, Nat.reduceAdd]
      refine kont_hax cx_ok hb 200 mixed [(0, true), (1, true), (2, true), (3, true), (4, true), (5, true), (6, true), (7, true)] (by kernel_rfl) (by kernel_rfl) ?_
      simp only [go_sem, Nat.reduceAdd, Nat.reduceSub, Nat.reduceMul, Nat.reduceBEq, Nat.reduceLT, Nat.reduceLeDiff, Nat.reduceEqDiff, Int.reduceToNat, Int.reduceLE, Int.reduceLT, Int.reduceAdd, Int.reduceSub, Int.reduceNeg, Int.reduceBEq, Int.reduceBNe, Nat.reduceBNe, Nat.reduceDiv, Nat.reduceMod, hp, tmodB, td, wi1, wi2, Int.reduceAdd]
      refine ⟨by decide, by decide, ?_⟩
      refine kont_call hb fn92 rfl ?_ (rplus_ok (pmD x y 1) Z e2 e3) (Ret.flat rfl) rfl fun d h hR => ?_
      · simp only [go_sem, Nat.reduceAdd, Nat.reduceSub, Nat.reduceMul, Nat.reduceBEq, Nat.reduceLT, Nat.reduceLeDiff, Nat.reduceEqDiff, Int.reduceToNat, Int.reduceLE, Int.reduceLT, Int.reduceAdd, Int.reduceSub, Int.reduceNeg, Int.reduceBEq, Int.reduceBNe, Nat.reduceBNe, Nat.reduceDiv, Nat.reduceMod, f0, f1, f2, f3, ci0]
      obtain ⟨rfl, rfl⟩ := hR
      refine kont_of_hx cx_ok hb 200 ?_
      simp only [go_sem, Nat.reduceAdd, Nat.reduceSub, Nat.reduceMul, Nat.reduceBEq, Nat.reduceLT, Nat.reduceLeDiff, Nat.reduceEqDiff, Int.reduceToNat, Int.reduceLE, Int.reduceLT, Int.reduceAdd, Int.reduceSub, Int.reduceNeg, Int.reduceBEq, Int.reduceBNe, Nat.reduceBNe, Nat.reduceDiv, Nat.reduceMod, f0, f1, f2, f3, ci0]
      repeat (refine And.intro (by first | assumption | omega) ?_)
      refine ⟨_, Weak.to 4 (by (simp only [go_sem, Nat.reduceAdd, Nat.reduceSub, Nat.reduceMul, Nat.reduceBEq, Nat.reduceLT, Nat.reduceLeDiff, Nat.reduceEqDiff, Int.reduceToNat, Int.reduceLE, Int.reduceLT, Int.reduceAdd, Int.reduceSub, Int.reduceNeg, Int.reduceBEq, Int.reduceBNe, Nat.reduceBNe, Nat.reduceDiv, Nat.reduceMod, ci1, ci2, Int.reduceAdd, wi2, Nat.reduceAdd, e1]) <;> simp), ForS.mk (γ) (trivial)⟩
    · refine kont_of_hx cx_ok hb 200 ?_
      simp only [go_sem, Nat.reduceAdd, Nat.reduceSub, Nat.reduceMul, Nat.reduceBEq, Nat.reduceLT, Nat.reduceLeDiff, Nat.reduceEqDiff, Int.reduceToNat, Int.reduceLE, Int.reduceLT, Int.reduceAdd, Int.reduceSub, Int.reduceNeg, Int.reduceBEq, Int.reduceBNe, Nat.reduceBNe, Nat.reduceDiv, Nat.reduceMod, ci2, Nat.reduceAdd]
      refine kont_of_hx cx_ok hb 200 ?_
      simp only [go_sem, Nat.reduceAdd, Nat.reduceSub, Nat.reduceMul, Nat.reduceBEq, Nat.reduceLT, Nat.reduceLeDiff, Nat.reduceEqDiff, Int.reduceToNat, Int.reduceLE, Int.reduceLT, Int.reduceAdd, Int.reduceSub, Int.reduceNeg, Int.reduceBEq, Int.reduceBNe, Nat.reduceBNe, Nat.reduceDiv, Nat.reduceMod]
      repeat (refine And.intro (by first | assumption | omega) ?_)
      refine ⟨_, Weak.to 4 (by (simp only [go_sem, Nat.reduceAdd, Nat.reduceSub, Nat.reduceMul, Nat.reduceBEq, Nat.reduceLT, Nat.reduceLeDiff, Nat.reduceEqDiff, Int.reduceToNat, Int.reduceLE, Int.reduceLT, Int.reduceAdd, Int.reduceSub, Int.reduceNeg, Int.reduceBEq, Int.reduceBNe, Nat.reduceBNe, Nat.reduceDiv, Nat.reduceMod, ci0, ci1, Int.reduceAdd, wi1, Nat.reduceAdd, Nat.reduceMul]) <;> simp), ForS.mk (γ) (trivial)⟩
  · refine kont_of_hx cx_ok hb 200 ?_
    simp only [go_sem, Nat.reduceAdd, Nat.reduceSub, Nat.reduceMul, Nat.reduceBEq, Nat.reduceLT, Nat.reduceLeDiff, Nat.reduceEqDiff, Int.reduceToNat, Int.reduceLE, Int.reduceLT, Int.reduceAdd, Int.reduceSub, Int.reduceNeg, Int.reduceBEq, Int.reduceBNe, Nat.reduceBNe, Nat.reduceDiv, Nat.reduceMod, ci1]
    refine kont_forF (G := Nat) [4, 5, 6, 7, 8, 17] (fun k => True) (fun k γ => [(20, dint k)]) (fun k γ => [⟨.one, 0, 4, 1, fun _ => [u64 0, u64 0, u64 0, u64 0]⟩, ⟨.one, 0, 4, 1, fun _ => [u64 (d0 x), u64 (d1 x), u64 0, u64 0]⟩, ⟨.one, 0, 4, 1, fun _ => [u64 (d0 y), u64 (d1 y), u64 0, u64 0]⟩, ⟨.one, 0, 4, 1, fun _ => [u64 (d0 (pmD x y (2 + k))), u64 (d1 (pmD x y (2 + k))), u64 (d2 (pmD x y (2 + k))), u64 (d3 (pmD x y (2 + k)))]⟩]) (2) (0) rfl (Weak.to 4 (by (simp only [go_sem, Nat.reduceAdd, Nat.reduceSub, Nat.reduceMul, Nat.reduceBEq, Nat.reduceLT, Nat.reduceLeDiff, Nat.reduceEqDiff, Int.reduceToNat, Int.reduceLE, Int.reduceLT, Int.reduceAdd, Int.reduceSub, Int.reduceNeg, Int.reduceBEq, Int.reduceBNe, Nat.reduceBNe, Nat.reduceDiv, Nat.reduceMod, Nat.add_zero]) <;> simp)) trivial ?_
    intro k γ hk _
    have hk' : k = 0 ∨ k = 1 ∨ k = 2 := by have : k ≤ 2 := hk; omega
    rcases hk' with rfl | rfl | rfl
    · obtain ⟨Z, hZ⟩ : ∃ Z, Z = Q * 4294967296 := ⟨_, rfl⟩
      have hp : IntKind.u64.wrap (((d1 x : Nat) : Int) * ((d0 y : Nat) : Int)) = ((Q : Nat) : Int) := by rw [wu_mul' _ _ (by rw [← hQ]; omega), hQ]
      have f0 : d0 Z = 0 := by rw [hZ]; unfold d0; omega
      have f1 : d1 Z = Q % 4294967296 := by rw [hZ]; unfold d1; omega
      have f2 : d2 Z = Q / 4294967296 := by rw [hZ]; unfold d2; omega
      have f3 : d3 Z = 0 := by rw [hZ]; unfold d3; omega
      have e1 : pmD x y 2 + Z = pmD x y 3 := by have := p2; have := p3; omega
      have e2 : pmD x y 2 < 2 ^ 128 := by have := p2; omega
      have e3 : Z < 2 ^ 128 := by rw [hZ]; omega
      have td := tdivB Q (by omega)
      refine kont_of_hx cx_ok hb 200 ?_
      simp only [go_sem, Nat.reduceAdd, Nat.reduceSub, Nat.reduceMul, Nat.reduceBEq, Nat.reduceLT, Nat.reduceLeDiff, Nat.reduceEqDiff, Int.reduceToNat, Int.reduceLE, Int.reduceLT, Int.reduceAdd, Int.reduceSub, Int.reduceNeg, Int.reduceBEq, Int.reduceBNe, Nat.reduceBNe, Nat.reduceDiv, Nat.reduceMod, ci0, Nat.reduceAdd]
      refine kont_hax cx_ok hb 200 mixed [(0, true), (1, true), (2, true), (3, true), (4, true), (5, true), (6, true), (7, true)] (by kernel_rfl) (by kernel_rfl) ?_
      simp only [go_sem, Nat.reduceAdd, Nat.reduceSub, Nat.reduceMul, Nat.reduceBEq, Nat.reduceLT, Nat.reduceLeDiff, Nat.reduceEqDiff, Int.reduceToNat, Int.reduceLE, Int.reduceLT, Int.reduceAdd, Int.reduceSub, Int.reduceNeg, Int.reduceBEq, Int.reduceBNe, Nat.reduceBNe, Nat.reduceDiv, Nat.reduceMod, hp, tmodB, td, wi1, wi2, Int.reduceAdd]
      refine ⟨by decide, by decide, ?_⟩
      refine kont_call hb fn92 rfl ?_ (rplus_ok (pmD x y 2) Z e2 e3) (Ret.flat rfl) rfl fun d h hR => ?_
      · simp only [go_sem, Nat.reduceAdd, Nat.reduceSub, Nat.reduceMul, Nat.reduceBEq, Nat.reduceLT, Nat.reduceLeDiff, Nat.reduceEqDiff, Int.reduceToNat, Int.reduceLE, Int.reduceLT, Int.reduceAdd, Int.reduceSub, Int.reduceNeg, Int.reduceBEq, Int.reduceBNe, Nat.reduceBNe, Nat.reduceDiv, Nat.reduceMod, f0, f1, f2, f3, ci0]
      obtain ⟨rfl, rfl⟩ := hR
      refine kont_of_hx cx_ok hb 200 ?_
      simp only [go_sem, Nat.reduceAdd, Nat.reduceSub, Nat.reduceMul, Nat.reduceBEq, Nat.reduceLT, Nat.reduceLeDiff, Nat.reduceEqDiff, Int.reduceToNat, Int.reduceLE, Int.reduceLT, Int.reduceAdd, Int.reduceSub, Int.reduceNeg, Int.reduceBEq, Int.reduceBNe, Nat.reduceBNe, Nat.reduceDiv, Nat.reduceMod, f0, f1, f2, f3, ci0]
      repeat (refine And.intro (by first | assumption | omega) ?_)
      refine ⟨_, Weak.to 4 (by (simp only [go_sem, Nat.reduceAdd, Nat.reduceSub, Nat.reduceMul, Nat.reduceBEq, Nat.reduceLT, Nat.reduceLeDiff, Nat.reduceEqDiff, Int.reduceToNat, Int.reduceLE, Int.reduceLT, Int.reduceAdd, Int.reduceSub, Int.reduceNeg, Int.reduceBEq, Int.reduceBNe, Nat.reduceBNe, Nat.reduceDiv, Nat.reduceMod, ci0, ci1, Int.reduceAdd, wi1, Nat.reduceAdd, e1]) <;> simp), ForS.mk (γ) (trivial)⟩
    · obtain ⟨Z, hZ⟩ : ∃ Z, Z = P * 18446744073709551616 := ⟨_, rfl⟩
      have hp : IntKind.u64.wrap (((d1 x : Nat) : Int) * ((d1 y : Nat) : Int)) = ((P : Nat) : Int) := by rw [wu_mul' _ _ (by rw [← hP]; omega), hP]
      have f0 : d0 Z = 0 := by rw [hZ]; unfold d0; omega
      have f1 : d1 Z = 0 := by rw [hZ]; unfold d1; omega
      have f2 : d2 Z = P % 4294967296 := by rw [hZ]; unfold d2; omega
      have f3 : d3 Z = P / 4294967296 := by rw [hZ]; unfold d3; omega
      have e1 : pmD x y 3 + Z = pmD x y 4 := by have := p3; have := p4; omega
      have e2 : pmD x y 3 < 2 ^ 128 := by have := p3; omega
      have e3 : Z < 2 ^ 128 := by rw [hZ]; omega
      have td := tdivB P (by omega)
      refine kont_of_hx cx_ok hb 200 ?_
      simp only [go_sem, Nat.reduceAdd, Nat.reduceSub, Nat.reduceMul, Nat.reduceBEq, Nat.reduceLT, Nat.reduceLeDiff, Nat.reduceEqDiff, Int.reduceToNat, Int.reduceLE, Int.reduceLT, Int.reduceAdd, Int.reduceSub, Int.reduceNeg, Int.reduceBEq, Int.reduceBNe, Nat.reduceBNe, Nat.reduceDiv, Nat.reduceMod, ci1, Nat.reduceAdd]
      refine kont_hax cx_ok hb 200 mixed [(0, true), (1, true), (2, true), (3, true), (4, true), (5, true), (6, true), (7, true)] (by kernel_rfl) (by kernel_rfl) ?_
      simp only [go_sem, Nat.reduceAdd, Nat.reduceSub, Nat.reduceMul, Nat.reduceBEq, Nat.reduceLT, Nat.reduceLeDiff, Nat.reduceEqDiff, Int.reduceToNat, Int.reduceLE, Int.reduceLT, Int.reduceAdd, Int.reduceSub, Int.reduceNeg, Int.reduceBEq, Int.reduceBNe, Nat.reduceBNe, Nat.reduceDiv, Nat.reduceMod, hp, tmodB, td, wi2, wi3, Int.reduceAdd]
      refine ⟨by decide, by decide, ?_⟩
      refine kont_call hb fn92 rfl ?_ (rplus_ok (pmD x y 3) Z e2 e3) (Ret.flat rfl) rfl fun d h hR => ?_
      · simp only [go_sem, Nat.reduceAdd, Nat.reduceSub, Nat.reduceMul, Nat.reduceBEq, Nat.reduceLT, Nat.reduceLeDiff, Nat.reduceEqDiff, Int.reduceToNat, Int.reduceLE, Int.reduceLT, Int.reduceAdd, Int.reduceSub, Int.reduceNeg, Int.reduceBEq, Int.reduceBNe, Nat.reduceBNe, Nat.reduceDiv, Nat.reduceMod, f0, f1, f2, f3, ci0]
      obtain ⟨rfl, rfl⟩ := hR
      refine kont_of_hx cx_ok hb 200 ?_
      simp only [go_sem, Nat.reduceAdd, Nat.reduceSub, Nat.reduceMul, Nat.reduceBEq, Nat.reduceLT, Nat.reduceLeDiff, Nat.reduceEqDiff, Int.reduceToNat, Int.reduceLE, Int.reduceLT, Int.reduceAdd, Int.reduceSub, Int.reduceNeg, Int.reduceBEq, Int.reduceBNe, Nat.reduceBNe, Nat.reduceDiv, Nat.reduceMod, f0, f1, f2, f3, ci0]
      repeat (refine And.intro (by first | assumption | omega) ?_)
      refine ⟨_, Weak.to 4 (by (simp only [go_sem, Nat.reduceAdd, Nat.reduceSub, Nat.reduceMul, Nat.reduceBEq, Nat.reduceLT, Nat.reduceLeDiff, Nat.reduceEqDiff, Int.reduceToNat, Int.reduceLE, Int.reduceLT, Int.reduceAdd, Int.reduceSub, Int.reduceNeg, Int.reduceBEq, Int.reduceBNe, Nat.reduceBNe, Nat.reduceDiv, Nat.reduceMod, ci1, ci2, Int.reduceAdd, wi2, Nat.reduceAdd, e1]) <;> simp), ForS.mk (γ) (trivial)⟩
    · refine kont_of_hx cx_ok hb 200 ?_
      simp only [go_sem, Nat.reduceAdd, Nat.reduceSub, Nat.reduceMul, Nat.reduceBEq, Nat.reduceLT, Nat.reduceLeDiff, Nat.reduceEqDiff, Int.reduceToNat, Int.reduceLE, Int.reduceLT, Int.reduceAdd, Int.reduceSub, Int.reduceNeg, Int.reduceBEq, Int.reduceBNe, Nat.reduceBNe, Nat.reduceDiv, Nat.reduceMod, ci2, Nat.reduceAdd]
      refine kont_of_hx cx_ok hb 200 ?_
      simp only [go_sem, Nat.reduceAdd, Nat.reduceSub, Nat.reduceMul, Nat.reduceBEq, Nat.reduceLT, Nat.reduceLeDiff, Nat.reduceEqDiff, Int.reduceToNat, Int.reduceLE, Int.reduceLT, Int.reduceAdd, Int.reduceSub, Int.reduceNeg, Int.reduceBEq, Int.reduceBNe, Nat.reduceBNe, Nat.reduceDiv, Nat.reduceMod]
      repeat (refine And.intro (by first | assumption | omega) ?_)
      refine ⟨_, Weak.to 4 (by (simp only [go_sem, Nat.reduceAdd, Nat.reduceSub, Nat.reduceMul, Nat.reduceBEq, Nat.reduceLT, Nat.reduceLeDiff, Nat.reduceEqDiff, Int.reduceToNat, Int.reduceLE, Int.reduceLT, Int.reduceAdd, Int.reduceSub, Int.reduceNeg, Int.reduceBEq, Int.reduceBNe, Nat.reduceBNe, Nat.reduceDiv, Nat.reduceMod, ci1, ci2, Int.reduceAdd, wi2, Nat.reduceAdd, Nat.reduceMul]) <;> simp), ForS.mk (γ) (trivial)⟩
  · refine kont_of_hx cx_ok hb 200 ?_
    simp only [go_sem, Nat.reduceAdd, Nat.reduceSub, Nat.reduceMul, Nat.reduceBEq, Nat.reduceLT, Nat.reduceLeDiff, Nat.reduceEqDiff, Int.reduceToNat, Int.reduceLE, Int.reduceLT, Int.reduceAdd, Int.reduceSub, Int.reduceNeg, Int.reduceBEq, Int.reduceBNe, Nat.reduceBNe, Nat.reduceDiv, Nat.reduceMod, ci2, Nat.reduceMul, hend]
    refine kont_of_hx cx_ok hb 200 ?_
    simp only [go_sem, Nat.reduceAdd, Nat.reduceSub, Nat.reduceMul, Nat.reduceBEq, Nat.reduceLT, Nat.reduceLeDiff, Nat.reduceEqDiff, Int.reduceToNat, Int.reduceLE, Int.reduceLT, Int.reduceAdd, Int.reduceSub, Int.reduceNeg, Int.reduceBEq, Int.reduceBNe, Nat.reduceBNe, Nat.reduceDiv, Nat.reduceMod]
end Go.Fg.X
namespace Go.Fg.X
open Go.Proofs Go.Fg
set_option maxRecDepth 100000
set_option maxHeartbeats 4000000
set_option linter.unusedSimpArgs false
set_option linter.unusedVariables false
def cdiv (n d : Nat) : Nat := (n + d - 1) / d
theorem cdiv_eq (n d : Nat) (hd : 0 < d) : cdiv n d = if n % d = 0 then n / d else n / d + 1 := by
  unfold cdiv
  have h1 := Nat.div_add_mod n d
  have h2 := Nat.mod_lt n hd
  split
  · rename_i h
    have : (n + d - 1) / d = n / d ∧ (n + d - 1) % d = d - 1 := (Nat.div_mod_unique hd).2 ⟨by omega, by omega⟩
    exact this.1
  · have : (n + d - 1) / d = n / d + 1 ∧ (n + d - 1) % d = n % d - 1 := (Nat.div_mod_unique hd).2 ⟨by rw [Nat.mul_add]; omega, by omega⟩
    exact this.1
theorem narrow_ok (n : Nat) (hn : n < 18446744073709551616) : AFn Tryz.prog 114 [num n] (Ret (.tup [u64 n, dint 0])) := by
  refine AFn_hxk 0 cx_ok 200 Tryz.func114 rfl Tryz.ntmps114 Tryz.results114 rfl fun base w hb => ?_
  simp only [go_sem, Nat.reduceAdd, Nat.reduceSub, Nat.reduceMul, Nat.reduceBEq, Nat.reduceLT, Nat.reduceLeDiff, Nat.reduceEqDiff, Int.reduceToNat, Int.reduceLE, Int.reduceLT, Int.reduceAdd, Int.reduceSub, Int.reduceNeg, Int.reduceBEq, Int.reduceBNe, Nat.reduceBNe, Nat.reduceDiv, Nat.reduceMod]
  have e1 : ((((n / 18446744073709551616 : Nat)) : Int) != 0) = false := bnF (by omega)
  simp only [go_sem, Nat.reduceAdd, Nat.reduceSub, Nat.reduceMul, Nat.reduceBEq, Nat.reduceLT, Nat.reduceLeDiff, Nat.reduceEqDiff, Int.reduceToNat, Int.reduceLE, Int.reduceLT, Int.reduceAdd, Int.reduceSub, Int.reduceNeg, Int.reduceBEq, Int.reduceBNe, Nat.reduceBNe, Nat.reduceDiv, Nat.reduceMod, e1]
  rw [Nat.mod_eq_of_lt hn]
theorem rceil_ok (n d : Nat) (hn : n < 2 ^ 127) (hd : d < 18446744073709551616) (hd0 : 0 < d) (hq : cdiv n d < 18446744073709551616) : AFn Tryz.prog 89 [num n, u64 d] (Ret (.tup [u64 (cdiv n d), dint 0])) := by
  have hc := cdiv_eq n d hd0
  have hdz : d ≠ 0 := by omega
  have hle := Nat.div_le_self n d
  refine AFn_hxk 0 cx_ok 200 Tryz.func89 rfl Tryz.ntmps89 Tryz.results89 rfl fun base w hb => ?_
  simp only [go_sem, Nat.reduceAdd, Nat.reduceSub, Nat.reduceMul, Nat.reduceBEq, Nat.reduceLT, Nat.reduceLeDiff, Nat.reduceEqDiff, Int.reduceToNat, Int.reduceLE, Int.reduceLT, Int.reduceAdd, Int.reduceSub, Int.reduceNeg, Int.reduceBEq, Int.reduceBNe, Nat.reduceBNe, Nat.reduceDiv, Nat.reduceMod]
  refine kont_call hb fn113 rfl ?_ (div_ok n d (by omega) hd) (Ret.flat rfl) rfl fun d h hR => ?_
  · simp only [go_sem, Nat.reduceAdd, Nat.reduceSub, Nat.reduceMul, Nat.reduceBEq, Nat.reduceLT, Nat.reduceLeDiff, Nat.reduceEqDiff, Int.reduceToNat, Int.reduceLE, Int.reduceLT, Int.reduceAdd, Int.reduceSub, Int.reduceNeg, Int.reduceBEq, Int.reduceBNe, Nat.reduceBNe, Nat.reduceDiv, Nat.reduceMod, hdz, if_false]
  obtain ⟨rfl, rfl⟩ := hR
  refine kont_of_hx cx_ok hb 200 ?_
  simp only [go_sem, Nat.reduceAdd, Nat.reduceSub, Nat.reduceMul, Nat.reduceBEq, Nat.reduceLT, Nat.reduceLeDiff, Nat.reduceEqDiff, Int.reduceToNat, Int.reduceLE, Int.reduceLT, Int.reduceAdd, Int.reduceSub, Int.reduceNeg, Int.reduceBEq, Int.reduceBNe, Nat.reduceBNe, Nat.reduceDiv, Nat.reduceMod, hdz, if_false]
  by_cases h : n % d = 0
  · rw [if_pos h] at hc
    have e1 := bnF h
    simp only [go_sem, Nat.reduceAdd, Nat.reduceSub, Nat.reduceMul, Nat.reduceBEq, Nat.reduceLT, Nat.reduceLeDiff, Nat.reduceEqDiff, Int.reduceToNat, Int.reduceLE, Int.reduceLT, Int.reduceAdd, Int.reduceSub, Int.reduceNeg, Int.reduceBEq, Int.reduceBNe, Nat.reduceBNe, Nat.reduceDiv, Nat.reduceMod, e1]
    refine kont_call hb fn114 rfl ?_ (narrow_ok (n / d) (by omega)) (Ret.flat rfl) rfl fun d h hR => ?_
    · simp only [go_sem, Nat.reduceAdd, Nat.reduceSub, Nat.reduceMul, Nat.reduceBEq, Nat.reduceLT, Nat.reduceLeDiff, Nat.reduceEqDiff, Int.reduceToNat, Int.reduceLE, Int.reduceLT, Int.reduceAdd, Int.reduceSub, Int.reduceNeg, Int.reduceBEq, Int.reduceBNe, Nat.reduceBNe, Nat.reduceDiv, Nat.reduceMod, hc]
    obtain ⟨rfl, rfl⟩ := hR
    refine kont_of_hx cx_ok hb 200 ?_
    simp only [go_sem, Nat.reduceAdd, Nat.reduceSub, Nat.reduceMul, Nat.reduceBEq, Nat.reduceLT, Nat.reduceLeDiff, Nat.reduceEqDiff, Int.reduceToNat, Int.reduceLE, Int.reduceLT, Int.reduceAdd, Int.reduceSub, Int.reduceNeg, Int.reduceBEq, Int.reduceBNe, Nat.reduceBNe, Nat.reduceDiv, Nat.reduceMod, hc]
  · rw [if_neg h] at hc
    have e1 := bnT h
    simp only [go_sem, Nat.reduceAdd, Nat.reduceSub, Nat.reduceMul, Nat.reduceBEq, Nat.reduceLT, Nat.reduceLeDiff, Nat.reduceEqDiff, Int.reduceToNat, Int.reduceLE, Int.reduceLT, Int.reduceAdd, Int.reduceSub, Int.reduceNeg, Int.reduceBEq, Int.reduceBNe, Nat.reduceBNe, Nat.reduceDiv, Nat.reduceMod, e1]
    refine kont_hax cx_ok hb 200 mixed [(0, true), (1, false), (2, false), (3, true), (4, true), (5, true), (6, false)] (by kernel_rfl) (by kernel_rfl) ?_
    simp only [go_sem, Nat.reduceAdd, Nat.reduceSub, Nat.reduceMul, Nat.reduceBEq, Nat.reduceLT, Nat.reduceLeDiff, Nat.reduceEqDiff, Int.reduceToNat, Int.reduceLE, Int.reduceLT, Int.reduceAdd, Int.reduceSub, Int.reduceNeg, Int.reduceBEq, Int.reduceBNe, Nat.reduceBNe, Nat.reduceDiv, Nat.reduceMod]
    refine AX_call hb fn102 rfl ?_ (of_ok 1 (by decide)) (Ret.flat rfl) rfl fun d h hR => ?_
    · simp only [go_sem, Nat.reduceAdd, Nat.reduceSub, Nat.reduceMul, Nat.reduceBEq, Nat.reduceLT, Nat.reduceLeDiff, Nat.reduceEqDiff, Int.reduceToNat, Int.reduceLE, Int.reduceLT, Int.reduceAdd, Int.reduceSub, Int.reduceNeg, Int.reduceBEq, Int.reduceBNe, Nat.reduceBNe, Nat.reduceDiv, Nat.reduceMod, ci1]
    obtain ⟨rfl, rfl⟩ := hR
    refine AX_of_hax cx_ok hb ?_
    simp only [go_sem, Nat.reduceAdd, Nat.reduceSub, Nat.reduceMul, Nat.reduceBEq, Nat.reduceLT, Nat.reduceLeDiff, Nat.reduceEqDiff, Int.reduceToNat, Int.reduceLE, Int.reduceLT, Int.reduceAdd, Int.reduceSub, Int.reduceNeg, Int.reduceBEq, Int.reduceBNe, Nat.reduceBNe, Nat.reduceDiv, Nat.reduceMod, ci1]
    refine AX_call hb fn88 rfl ?_ (add_ok (n / d) 1 (by omega) (by decide)) (Ret.flat rfl) rfl fun d h hR => ?_
    · simp only [go_sem, Nat.reduceAdd, Nat.reduceSub, Nat.reduceMul, Nat.reduceBEq, Nat.reduceLT, Nat.reduceLeDiff, Nat.reduceEqDiff, Int.reduceToNat, Int.reduceLE, Int.reduceLT, Int.reduceAdd, Int.reduceSub, Int.reduceNeg, Int.reduceBEq, Int.reduceBNe, Nat.reduceBNe, Nat.reduceDiv, Nat.reduceMod, ci1]
    obtain ⟨rfl, rfl⟩ := hR
    refine AX_of_hax cx_ok hb ?_
    simp only [go_sem, Nat.reduceAdd, Nat.reduceSub, Nat.reduceMul, Nat.reduceBEq, Nat.reduceLT, Nat.reduceLeDiff, Nat.reduceEqDiff, Int.reduceToNat, Int.reduceLE, Int.reduceLT, Int.reduceAdd, Int.reduceSub, Int.reduceNeg, Int.reduceBEq, Int.reduceBNe, Nat.reduceBNe, Nat.reduceDiv, Nat.reduceMod, ci1]
    have e2 : (n / d + 1) % 2 ^ 128 = cdiv n d := by omega
    simp only [go_sem, Nat.reduceAdd, Nat.reduceSub, Nat.reduceMul, Nat.reduceBEq, Nat.reduceLT, Nat.reduceLeDiff, Nat.reduceEqDiff, Int.reduceToNat, Int.reduceLE, Int.reduceLT, Int.reduceAdd, Int.reduceSub, Int.reduceNeg, Int.reduceBEq, Int.reduceBNe, Nat.reduceBNe, Nat.reduceDiv, Nat.reduceMod, e2]
    refine kont_call hb fn114 rfl ?_ (narrow_ok (cdiv n d) hq) (Ret.flat rfl) rfl fun d h hR => ?_
    · simp only [go_sem, Nat.reduceAdd, Nat.reduceSub, Nat.reduceMul, Nat.reduceBEq, Nat.reduceLT, Nat.reduceLeDiff, Nat.reduceEqDiff, Int.reduceToNat, Int.reduceLE, Int.reduceLT, Int.reduceAdd, Int.reduceSub, Int.reduceNeg, Int.reduceBEq, Int.reduceBNe, Nat.reduceBNe, Nat.reduceDiv, Nat.reduceMod]
    obtain ⟨rfl, rfl⟩ := hR
    refine kont_of_hx cx_ok hb 200 ?_
    simp only [go_sem, Nat.reduceAdd, Nat.reduceSub, Nat.reduceMul, Nat.reduceBEq, Nat.reduceLT, Nat.reduceLeDiff, Nat.reduceEqDiff, Int.reduceToNat, Int.reduceLE, Int.reduceLT, Int.reduceAdd, Int.reduceSub, Int.reduceNeg, Int.reduceBEq, Int.reduceBNe, Nat.reduceBNe, Nat.reduceDiv, Nat.reduceMod]
@[go_sem] def got02 (v e : Int) : D := .agg [.raw (.int .u64 v), .raw (.int .i64 e)]
theorem fceil_ok (n d : Nat) (hn : n < 2 ^ 127) (hd : d < 18446744073709551616) (hd0 : 0 < d) (hq : cdiv n d < 18446744073709551616) : AFn Tryz.prog 93 [dg n, u64 d] (Ret (got02 (cdiv n d) 0)) := by
  have hc := cdiv_eq n d hd0
  have hdz := bnz (show d ≠ 0 by omega)
  have hle := Nat.div_le_self n d
  have hml := Nat.mod_lt n hd0
  refine AFn_hxk 0 cx_ok 200 Tryz.func93 rfl Tryz.ntmps93 Tryz.results93 rfl fun base w hb => ?_
  simp only [go_sem, Nat.reduceAdd, Nat.reduceSub, Nat.reduceMul, Nat.reduceBEq, Nat.reduceLT, Nat.reduceLeDiff, Nat.reduceEqDiff, Int.reduceToNat, Int.reduceLE, Int.reduceLT, Int.reduceAdd, Int.reduceSub, Int.reduceNeg, Int.reduceBEq, Int.reduceBNe, Nat.reduceBNe, Nat.reduceDiv, Nat.reduceMod]
  simp only [go_sem, Nat.reduceAdd, Nat.reduceSub, Nat.reduceMul, Nat.reduceBEq, Nat.reduceLT, Nat.reduceLeDiff, Nat.reduceEqDiff, Int.reduceToNat, Int.reduceLE, Int.reduceLT, Int.reduceAdd, Int.reduceSub, Int.reduceNeg, Int.reduceBEq, Int.reduceBNe, Nat.reduceBNe, Nat.reduceDiv, Nat.reduceMod, hdz]
  refine kont_call hb fn117 rfl ?_ (rquo_ok n d (by omega) hd hd0) (Ret.flat rfl) rfl fun d h hR => ?_
  · simp only [go_sem, Nat.reduceAdd, Nat.reduceSub, Nat.reduceMul, Nat.reduceBEq, Nat.reduceLT, Nat.reduceLeDiff, Nat.reduceEqDiff, Int.reduceToNat, Int.reduceLE, Int.reduceLT, Int.reduceAdd, Int.reduceSub, Int.reduceNeg, Int.reduceBEq, Int.reduceBNe, Nat.reduceBNe, Nat.reduceDiv, Nat.reduceMod]
  obtain ⟨rfl, rfl⟩ := hR
  refine kont_of_hx cx_ok hb 200 ?_
  simp only [go_sem, Nat.reduceAdd, Nat.reduceSub, Nat.reduceMul, Nat.reduceBEq, Nat.reduceLT, Nat.reduceLeDiff, Nat.reduceEqDiff, Int.reduceToNat, Int.reduceLE, Int.reduceLT, Int.reduceAdd, Int.reduceSub, Int.reduceNeg, Int.reduceBEq, Int.reduceBNe, Nat.reduceBNe, Nat.reduceDiv, Nat.reduceMod]
  by_cases h : n % d = 0
  · rw [if_pos h] at hc
    have e1 := dnp h
    have e2 : ((((n / d / 18446744073709551616 : Nat)) : Int) != 0) = false := bnF (by omega)
    simp only [go_sem, Nat.reduceAdd, Nat.reduceSub, Nat.reduceMul, Nat.reduceBEq, Nat.reduceLT, Nat.reduceLeDiff, Nat.reduceEqDiff, Int.reduceToNat, Int.reduceLE, Int.reduceLT, Int.reduceAdd, Int.reduceSub, Int.reduceNeg, Int.reduceBEq, Int.reduceBNe, Nat.reduceBNe, Nat.reduceDiv, Nat.reduceMod, e1]
    refine kont_call hb fn118 rfl ?_ (rhi_ok (n / d) (by omega)) (Ret.flat rfl) rfl fun d h hR => ?_
    · simp only [go_sem, Nat.reduceAdd, Nat.reduceSub, Nat.reduceMul, Nat.reduceBEq, Nat.reduceLT, Nat.reduceLeDiff, Nat.reduceEqDiff, Int.reduceToNat, Int.reduceLE, Int.reduceLT, Int.reduceAdd, Int.reduceSub, Int.reduceNeg, Int.reduceBEq, Int.reduceBNe, Nat.reduceBNe, Nat.reduceDiv, Nat.reduceMod, e2]
    obtain ⟨rfl, rfl⟩ := hR
    refine kont_of_hx cx_ok hb 200 ?_
    simp only [go_sem, Nat.reduceAdd, Nat.reduceSub, Nat.reduceMul, Nat.reduceBEq, Nat.reduceLT, Nat.reduceLeDiff, Nat.reduceEqDiff, Int.reduceToNat, Int.reduceLE, Int.reduceLT, Int.reduceAdd, Int.reduceSub, Int.reduceNeg, Int.reduceBEq, Int.reduceBNe, Nat.reduceBNe, Nat.reduceDiv, Nat.reduceMod, e2]
    refine kont_call hb fn119 rfl ?_ (rlo_ok (n / d) (by omega)) (Ret.flat rfl) rfl fun d h hR => ?_
    · simp only [go_sem, Nat.reduceAdd, Nat.reduceSub, Nat.reduceMul, Nat.reduceBEq, Nat.reduceLT, Nat.reduceLeDiff, Nat.reduceEqDiff, Int.reduceToNat, Int.reduceLE, Int.reduceLT, Int.reduceAdd, Int.reduceSub, Int.reduceNeg, Int.reduceBEq, Int.reduceBNe, Nat.reduceBNe, Nat.reduceDiv, Nat.reduceMod, hc]
    obtain ⟨rfl, rfl⟩ := hR
    refine kont_of_hx cx_ok hb 200 ?_
    simp only [go_sem, Nat.reduceAdd, Nat.reduceSub, Nat.reduceMul, Nat.reduceBEq, Nat.reduceLT, Nat.reduceLeDiff, Nat.reduceEqDiff, Int.reduceToNat, Int.reduceLE, Int.reduceLT, Int.reduceAdd, Int.reduceSub, Int.reduceNeg, Int.reduceBEq, Int.reduceBNe, Nat.reduceBNe, Nat.reduceDiv, Nat.reduceMod, hc]
    rw [Nat.mod_eq_of_lt (by omega)]
  · rw [if_neg h] at hc
    have e1 := dp h
    simp only [go_sem, Nat.reduceAdd, Nat.reduceSub, Nat.reduceMul, Nat.reduceBEq, Nat.reduceLT, Nat.reduceLeDiff, Nat.reduceEqDiff, Int.reduceToNat, Int.reduceLE, Int.reduceLT, Int.reduceAdd, Int.reduceSub, Int.reduceNeg, Int.reduceBEq, Int.reduceBNe, Nat.reduceBNe, Nat.reduceDiv, Nat.reduceMod, e1]
    refine kont_hax cx_ok hb 200 mixed [(0, true), (1, false), (2, false), (3, false)] (by kernel_rfl) (by kernel_rfl) ?_
    simp only [go_sem, Nat.reduceAdd, Nat.reduceSub, Nat.reduceMul, Nat.reduceBEq, Nat.reduceLT, Nat.reduceLeDiff, Nat.reduceEqDiff, Int.reduceToNat, Int.reduceLE, Int.reduceLT, Int.reduceAdd, Int.reduceSub, Int.reduceNeg, Int.reduceBEq, Int.reduceBNe, Nat.reduceBNe, Nat.reduceDiv, Nat.reduceMod]
    refine AX_call hb fn94 rfl ?_ (rof_ok 1 (by decide)) (Ret.flat rfl) rfl fun d h hR => ?_
    · simp only [go_sem, Nat.reduceAdd, Nat.reduceSub, Nat.reduceMul, Nat.reduceBEq, Nat.reduceLT, Nat.reduceLeDiff, Nat.reduceEqDiff, Int.reduceToNat, Int.reduceLE, Int.reduceLT, Int.reduceAdd, Int.reduceSub, Int.reduceNeg, Int.reduceBEq, Int.reduceBNe, Nat.reduceBNe, Nat.reduceDiv, Nat.reduceMod, ci1]
    obtain ⟨rfl, rfl⟩ := hR
    refine AX_of_hax cx_ok hb ?_
    simp only [go_sem, Nat.reduceAdd, Nat.reduceSub, Nat.reduceMul, Nat.reduceBEq, Nat.reduceLT, Nat.reduceLeDiff, Nat.reduceEqDiff, Int.reduceToNat, Int.reduceLE, Int.reduceLT, Int.reduceAdd, Int.reduceSub, Int.reduceNeg, Int.reduceBEq, Int.reduceBNe, Nat.reduceBNe, Nat.reduceDiv, Nat.reduceMod, ci1]
    refine AX_call hb fn92 rfl ?_ (rplus_ok (n / d) 1 (by omega) (by decide)) (Ret.flat rfl) rfl fun d h hR => ?_
    · simp only [go_sem, Nat.reduceAdd, Nat.reduceSub, Nat.reduceMul, Nat.reduceBEq, Nat.reduceLT, Nat.reduceLeDiff, Nat.reduceEqDiff, Int.reduceToNat, Int.reduceLE, Int.reduceLT, Int.reduceAdd, Int.reduceSub, Int.reduceNeg, Int.reduceBEq, Int.reduceBNe, Nat.reduceBNe, Nat.reduceDiv, Nat.reduceMod, ci1]
    obtain ⟨rfl, rfl⟩ := hR
    refine AX_of_hax cx_ok hb ?_
    simp only [go_sem, Nat.reduceAdd, Nat.reduceSub, Nat.reduceMul, Nat.reduceBEq, Nat.reduceLT, Nat.reduceLeDiff, Nat.reduceEqDiff, Int.reduceToNat, Int.reduceLE, Int.reduceLT, Int.reduceAdd, Int.reduceSub, Int.reduceNeg, Int.reduceBEq, Int.reduceBNe, Nat.reduceBNe, Nat.reduceDiv, Nat.reduceMod, ci1]
    have e2 : ((((n / d + 1) / 18446744073709551616 : Nat) : Int) != 0) = false := bnF (by omega)
    refine kont_call hb fn118 rfl ?_ (rhi_ok (n / d + 1) (by omega)) (Ret.flat rfl) rfl fun d h hR => ?_
    · simp only [go_sem, Nat.reduceAdd, Nat.reduceSub, Nat.reduceMul, Nat.reduceBEq, Nat.reduceLT, Nat.reduceLeDiff, Nat.reduceEqDiff, Int.reduceToNat, Int.reduceLE, Int.reduceLT, Int.reduceAdd, Int.reduceSub, Int.reduceNeg, Int.reduceBEq, Int.reduceBNe, Nat.reduceBNe, Nat.reduceDiv, Nat.reduceMod, e2]
    obtain ⟨rfl, rfl⟩ := hR
    refine kont_of_hx cx_ok hb 200 ?_
    simp only [go_sem, Nat.reduceAdd, Nat.reduceSub, Nat.reduceMul, Nat.reduceBEq, Nat.reduceLT, Nat.reduceLeDiff, Nat.reduceEqDiff, Int.reduceToNat, Int.reduceLE, Int.reduceLT, Int.reduceAdd, Int.reduceSub, Int.reduceNeg, Int.reduceBEq, Int.reduceBNe, Nat.reduceBNe, Nat.reduceDiv, Nat.reduceMod, e2]
    refine kont_call hb fn119 rfl ?_ (rlo_ok (n / d + 1) (by omega)) (Ret.flat rfl) rfl fun d h hR => ?_
    · simp only [go_sem, Nat.reduceAdd, Nat.reduceSub, Nat.reduceMul, Nat.reduceBEq, Nat.reduceLT, Nat.reduceLeDiff, Nat.reduceEqDiff, Int.reduceToNat, Int.reduceLE, Int.reduceLT, Int.reduceAdd, Int.reduceSub, Int.reduceNeg, Int.reduceBEq, Int.reduceBNe, Nat.reduceBNe, Nat.reduceDiv, Nat.reduceMod, hc]
    obtain ⟨rfl, rfl⟩ := hR
    refine kont_of_hx cx_ok hb 200 ?_
    simp only [go_sem, Nat.reduceAdd, Nat.reduceSub, Nat.reduceMul, Nat.reduceBEq, Nat.reduceLT, Nat.reduceLeDiff, Nat.reduceEqDiff, Int.reduceToNat, Int.reduceLE, Int.reduceLT, Int.reduceAdd, Int.reduceSub, Int.reduceNeg, Int.reduceBEq, Int.reduceBNe, Nat.reduceBNe, Nat.reduceDiv, Nat.reduceMod, hc]
    rw [Nat.mod_eq_of_lt (by omega)]
end Go.Fg.X
namespace Go.Fg
set_option linter.unusedSimpArgs false
set_option linter.unusedVariables false
theorem oper_mono {P : Program} {o : Oper} {a : Act} {w : World} {K K' : Act → World → Prop} {Q Q' : Exit → Act → World → Prop} (hk : ∀ a w, K a w → K' a w) (hq : ∀ e a w, Q e a w → Q' e a w) (h : o.wp P a w K Q) : o.wp P a w K' Q' := by
  unfold Oper.wp at *
  generalize (execOp a.eval o).run P w = r at *
  cases r with
  | ok x w' =>
    cases x <;> simp only [Oper.upon] at h ⊢ <;> first | exact hk _ _ h | exact h | skip
    · exact h.mono fun e w'' he => by
        cases e with
        | returned v => exact hk _ _ he
        | panicked c => exact hq _ _ _ he
        | outgrown => obtain ⟨a, w, h⟩ := he; exact ⟨a, w, hq _ _ _ h⟩
    · exact h.mono fun v w'' he => hk _ _ he
  | halt x w' => cases x <;> first | exact h | exact hq _ _ _ h
theorem wpG_mono {P : Program} {Q Q' : Exit → Act → World → Prop} (hq : ∀ e a w, Q e a w → Q' e a w) : ∀ (l : List (Oper × G)) (a : Act) (w : World), wpG P Q l a w → wpG P Q' l a w
  | [], a, w, h => hq _ _ _ h
  | (o, g) :: r, a, w, h => by
    simp only [wpG] at h ⊢
    split at h
    · rename_i hw
      rw [if_pos hw]
      exact oper_mono (fun a w => wpG_mono hq r a w) hq h
    · rename_i hw
      rw [if_neg hw]
      exact wpG_mono hq r _ _ h
section
variable {P : Program} {base nt : Nat} {w0 : Start} {Q : Exit → St → Prop} {k : List Item} {s s1 : St}
def JoinQ (P : Program) (base nt : Nat) (w0 : Start) (Q : Exit → St → Prop) (k : List Item) (s1 : St) : Exit → St → Prop
  | .normal, s => Weak w0 s s1
  | e, s => kont P base nt w0 Q k e s
@[go_sem] theorem JoinQ_normal : JoinQ P base nt w0 Q k s1 .normal s = Weak w0 s s1 := eqOf rfl
@[go_sem] theorem JoinQ_exit {j : Nat} : JoinQ P base nt w0 Q k s1 (.exit j) s = kont P base nt w0 Q k (.exit j) s := eqOf rfl
@[go_sem] theorem JoinQ_ret : JoinQ P base nt w0 Q k s1 .ret s = kont P base nt w0 Q k .ret s := eqOf rfl
/-- Behind the first piece all ways stand alike. -/
theorem kont_join {x : Item} {c : Code} (s1 : St) (h1 : kont P base nt w0 (JoinQ P base nt w0 Q (.code c :: k) s1) [x] .normal s) (h2 : kont P base nt w0 Q (.code c :: k) .normal s1) : kont P base nt w0 Q (x :: .code c :: k) .normal s := by
  cases x with
  | code x =>
    simp only [kont] at h1
    show A P base nt w0 x _ s
    refine h1.mono fun e s' he => ?_
    cases e with
    | normal => exact kont_weak_code he h2
    | _ => exact he
  | ops l =>
    simp only [kont] at h1
    show AG P base nt w0 l _ s
    intro Z z pl a w r b
    refine wpG_mono (fun e a' w' ⟨s', pl', hs, r', b'⟩ => ⟨s', pl', ?_, r', b'⟩) _ _ _ (h1 Z z pl a w r b)
    cases e with
    | normal => exact kont_weak_code hs h2
    | _ => exact hs
  | inBlock id => simp only [kont] at h1 ⊢; exact kont_weak_code h1 h2
  | inScope => simp only [kont] at h1 ⊢; exact kont_weak_code h1 h2
/-- The same: the slots V are told anew, those of 'keep' stay, the others are forgotten. -/
theorem kont_joinF {x : Item} {c : Code} (keep : List Nat) (V : List (Nat × D)) {fr : List (Nat × D)} {h : List Ob} {rest : List (Nat × D)} (hr : pickFr fr keep = rest)
    (h1 : kont P base nt w0 (JoinQ P base nt w0 Q (.code c :: k) ⟨V ++ rest, h⟩) [x] .normal ⟨fr, h⟩) (h2 : kont P base nt w0 Q (.code c :: k) .normal ⟨V ++ rest, h⟩) : kont P base nt w0 Q (x :: .code c :: k) .normal ⟨fr, h⟩ := kont_join _ h1 h2
@[go_sem] theorem hx_zero {X : Cx} : hx P base w0 Q X nt 0 k s = kont P base nt w0 Q k .normal s := by cases k <;> exact eqOf rfl
end
end Go.Fg
