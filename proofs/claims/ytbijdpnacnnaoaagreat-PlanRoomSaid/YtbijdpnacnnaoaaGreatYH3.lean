/- Walks of the functions that the statement reaches. No conditions: contracts and laws. -/
import Derived.Test.YtbijdpnacnnaoaaGreatXW5
import Derived.Test.YtbijdpnacnnaoaaGreatSU3
import Derived.Test.YtbijdpnacnnaoaaGreatXW0
namespace Go.Fg.X
open Go.Proofs Go.Fg
set_option maxRecDepth 100000
set_option maxHeartbeats 4000000
set_option linter.unusedSimpArgs false
set_option linter.unusedVariables false
def pmD (x y : Nat) : Nat → Nat
  | 0 => 0
  | 1 => d0 x * d0 y
  | 2 => d0 x * d0 y + d0 x * d1 y * 4294967296
  | 3 => d0 x * d0 y + d0 x * d1 y * 4294967296 + d1 x * d0 y * 4294967296
  | _ => d0 x * d0 y + d0 x * d1 y * 4294967296 + d1 x * d0 y * 4294967296 + d1 x * d1 y * 18446744073709551616
theorem rmul_ok (x y : Nat) (hx : x < 18446744073709551616) (hy : y < 18446744073709551616) : AFn Tryz.prog 89 [u64 x, u64 y] (Ret (dg (x * y))) := by
  obtain ⟨P, Q, R, S, hP, hQ, hR, hS, hab, bP, bQ, bR, bS⟩ := mul_parts x y (d1 x) (d0 x) (d1 y) (d0 y) (by unfold d1 d0; omega) (by unfold d1 d0; omega) (d1_lt x) (d0_lt x) (d1_lt y) (d0_lt y)
  have z0 : d0 0 = 0 := rfl
  have z1 : d1 0 = 0 := rfl
  have z2 : d2 0 = 0 := rfl
  have z3 : d3 0 = 0 := rfl
  have hx2 : d2 x = 0 := by unfold d2; omega
  have hx3 : d3 x = 0 := by unfold d3; omega
  have hy2 : d2 y = 0 := by unfold d2; omega
  have hy3 : d3 y = 0 := by unfold d3; omega
  have p0 : pmD x y 0 = 0 := rfl
  have p1 : pmD x y 1 = S := by simp only [pmD, hS]
  have p2 : pmD x y 2 = S + R * 4294967296 := by simp only [pmD, hS, hR]
  have p3 : pmD x y 3 = S + R * 4294967296 + Q * 4294967296 := by simp only [pmD, hS, hR, hQ]
  have p4 : pmD x y 4 = S + R * 4294967296 + Q * 4294967296 + P * 18446744073709551616 := by simp only [pmD, hS, hR, hQ, hP]
  have hend : pmD x y 4 = x * y := by rw [p4, hab]; omega
  refine AFn_hxk 0 cx_ok 200 Tryz.func89 rfl Tryz.ntmps89 Tryz.results89 rfl fun base w hb => ?_
  simp only [go_sem, Nat.reduceAdd, Nat.reduceSub, Nat.reduceMul, Nat.reduceBEq, Nat.reduceLT, Nat.reduceLeDiff, Nat.reduceEqDiff, Int.reduceToNat, Int.reduceLE, Int.reduceLT, Int.reduceAdd, Int.reduceSub, Int.reduceNeg, Int.reduceBEq, Int.reduceBNe, Nat.reduceBNe, Nat.reduceDiv, Nat.reduceMod]
  refine kont_call hb fn93 rfl ?_ (rof_ok x hx) (Ret.flat rfl) rfl fun d h hR => ?_
  · simp only [go_sem, Nat.reduceAdd, Nat.reduceSub, Nat.reduceMul, Nat.reduceBEq, Nat.reduceLT, Nat.reduceLeDiff, Nat.reduceEqDiff, Int.reduceToNat, Int.reduceLE, Int.reduceLT, Int.reduceAdd, Int.reduceSub, Int.reduceNeg, Int.reduceBEq, Int.reduceBNe, Nat.reduceBNe, Nat.reduceDiv, Nat.reduceMod]
  obtain ⟨rfl, rfl⟩ := hR
  refine kont_of_hx cx_ok hb 200 ?_
  simp only [go_sem, Nat.reduceAdd, Nat.reduceSub, Nat.reduceMul, Nat.reduceBEq, Nat.reduceLT, Nat.reduceLeDiff, Nat.reduceEqDiff, Int.reduceToNat, Int.reduceLE, Int.reduceLT, Int.reduceAdd, Int.reduceSub, Int.reduceNeg, Int.reduceBEq, Int.reduceBNe, Nat.reduceBNe, Nat.reduceDiv, Nat.reduceMod]
  refine kont_call hb fn93 rfl ?_ (rof_ok y hy) (Ret.flat rfl) rfl fun d h hR => ?_
  · simp only [go_sem, Nat.reduceAdd, Nat.reduceSub, Nat.reduceMul, Nat.reduceBEq, Nat.reduceLT, Nat.reduceLeDiff, Nat.reduceEqDiff, Int.reduceToNat, Int.reduceLE, Int.reduceLT, Int.reduceAdd, Int.reduceSub, Int.reduceNeg, Int.reduceBEq, Int.reduceBNe, Nat.reduceBNe, Nat.reduceDiv, Nat.reduceMod, hx2, hx3]
  obtain ⟨rfl, rfl⟩ := hR
  refine kont_of_hx cx_ok hb 200 ?_
  simp only [go_sem, Nat.reduceAdd, Nat.reduceSub, Nat.reduceMul, Nat.reduceBEq, Nat.reduceLT, Nat.reduceLeDiff, Nat.reduceEqDiff, Int.reduceToNat, Int.reduceLE, Int.reduceLT, Int.reduceAdd, Int.reduceSub, Int.reduceNeg, Int.reduceBEq, Int.reduceBNe, Nat.reduceBNe, Nat.reduceDiv, Nat.reduceMod, hx2, hx3]
  refine kont_forF (G := Nat) [4, 5, 6, 7] (fun k => True) (fun k γ => [(17, dint k)]) (fun k γ => [⟨.one, 0, 4, 1, fun _ => [u64 0, u64 0, u64 0, u64 0]⟩, ⟨.one, 0, 4, 1, fun _ => [u64 (d0 x), u64 (d1 x), u64 0, u64 0]⟩, ⟨.one, 0, 4, 1, fun _ => [u64 (d0 y), u64 (d1 y), u64 0, u64 0]⟩, ⟨.one, 0, 4, 1, fun _ => [u64 (d0 (pmD x y (2 * k))), u64 (d1 (pmD x y (2 * k))), u64 (d2 (pmD x y (2 * k))), u64 (d3 (pmD x y (2 * k)))]⟩]) (2) (0) rfl (Weak.to 4 (by (simp only [go_sem, Nat.reduceAdd, Nat.reduceSub, Nat.reduceMul, Nat.reduceBEq, Nat.reduceLT, Nat.reduceLeDiff, Nat.reduceEqDiff, Int.reduceToNat, Int.reduceLE, Int.reduceLT, Int.reduceAdd, Int.reduceSub, Int.reduceNeg, Int.reduceBEq, Int.reduceBNe, Nat.reduceBNe, Nat.reduceDiv, Nat.reduceMod, z0, z1, z2, z3, p0, hx2, hx3, hy2, hy3, Nat.mul_zero]) <;> simp)) trivial ?_
  intro k γ hk _
  have hk' : k = 0 ∨ k = 1 ∨ k = 2 := by have : k ≤ 2 := hk; omega
  rcases hk' with rfl | rfl | rfl
  · refine kont_of_hx cx_ok hb 200 ?_
    simp only [go_sem, Nat.reduceAdd, Nat.reduceSub, Nat.reduceMul, Nat.reduceBEq, Nat.reduceLT, Nat.reduceLeDiff, Nat.reduceEqDiff, Int.reduceToNat, Int.reduceLE, Int.reduceLT, Int.reduceAdd, Int.reduceSub, Int.reduceNeg, Int.reduceBEq, Int.reduceBNe, Nat.reduceBNe, Nat.reduceDiv, Nat.reduceMod, ci0]
    refine kont_forF (G := Nat) [4, 5, 6, 7, 8, 17] (fun k => True) (fun k γ => [(20, dint k)]) (fun k γ => [⟨.one, 0, 4, 1, fun _ => [u64 0, u64 0, u64 0, u64 0]⟩, ⟨.one, 0, 4, 1, fun _ => [u64 (d0 x), u64 (d1 x), u64 0, u64 0]⟩, ⟨.one, 0, 4, 1, fun _ => [u64 (d0 y), u64 (d1 y), u64 0, u64 0]⟩, ⟨.one, 0, 4, 1, fun _ => [u64 (d0 (pmD x y (0 + k))), u64 (d1 (pmD x y (0 + k))), u64 (d2 (pmD x y (0 + k))), u64 (d3 (pmD x y (0 + k)))]⟩]) (2) (0) rfl (Weak.to 4 (by (simp only [go_sem, Nat.reduceAdd, Nat.reduceSub, Nat.reduceMul, Nat.reduceBEq, Nat.reduceLT, Nat.reduceLeDiff, Nat.reduceEqDiff, Int.reduceToNat, Int.reduceLE, Int.reduceLT, Int.reduceAdd, Int.reduceSub, Int.reduceNeg, Int.reduceBEq, Int.reduceBNe, Nat.reduceBNe, Nat.reduceDiv, Nat.reduceMod, Nat.add_zero]) <;> simp)) trivial ?_
    intro k γ hk _
    have hk' : k = 0 ∨ k = 1 ∨ k = 2 := by have : k ≤ 2 := hk; omega
    rcases hk' with rfl | rfl | rfl
    · obtain ⟨Z, hZ⟩ : ∃ Z, Z = S * 1 := ⟨_, rfl⟩
      have hp : IntKind.u64.wrap (((d0 x : Nat) : Int) * ((d0 y : Nat) : Int)) = ((S : Nat) : Int) := by rw [wu_mul' _ _ (by rw [← hS]; omega), hS]
      have f0 : d0 Z = S % 4294967296 := by rw [hZ]; unfold d0; omega
      have f1 : d1 Z = S / 4294967296 := by rw [hZ]; unfold d1; omega
      have f2 : d2 Z = 0 := by rw [hZ]; unfold d2; omega
      have f3 : d3 Z = 0 := by rw [hZ]; unfold d3; omega
      have e1 : pmD x y 0 + Z = pmD x y 1 := by have := p0; have := p1; omega
      have e2 : pmD x y 0 < 2 ^ 128 := by have := p0; omega
      have e3 : Z < 2 ^ 128 := by rw [hZ]; omega
      have td := tdivB S (by omega)
      refine kont_of_hx cx_ok hb 200 ?_
      simp only [go_sem, Nat.reduceAdd, Nat.reduceSub, Nat.reduceMul, Nat.reduceBEq, Nat.reduceLT, Nat.reduceLeDiff, Nat.reduceEqDiff, Int.reduceToNat, Int.reduceLE, Int.reduceLT, Int.reduceAdd, Int.reduceSub, Int.reduceNeg, Int.reduceBEq, Int.reduceBNe, Nat.reduceBNe, Nat.reduceDiv, Nat.reduceMod, ci0, Nat.reduceAdd]
      refine kont_hax cx_ok hb 200 mixed [(0, true), (1, true), (2, true), (3, true), (4, true), (5, true), (6, true), (7, true)] (by kernel_rfl) (by kernel_rfl) ?_
      simp only [go_sem, Nat.reduceAdd, Nat.reduceSub, Nat.reduceMul, Nat.reduceBEq, Nat.reduceLT, Nat.reduceLeDiff, Nat.reduceEqDiff, Int.reduceToNat, Int.reduceLE, Int.reduceLT, Int.reduceAdd, Int.reduceSub, Int.reduceNeg, Int.reduceBEq, Int.reduceBNe, Nat.reduceBNe, Nat.reduceDiv, Nat.reduceMod, hp, tmodB, td, wi0, wi1, Int.reduceAdd]
      refine ⟨by decide, by decide, ?_⟩
      refine kont_call hb fn91 rfl ?_ (rplus_ok (pmD x y 0) Z e2 e3) (Ret.flat rfl) rfl fun d h hR => ?_
      · simp only [go_sem, Nat.reduceAdd, Nat.reduceSub, Nat.reduceMul, Nat.reduceBEq, Nat.reduceLT, Nat.reduceLeDiff, Nat.reduceEqDiff, Int.reduceToNat, Int.reduceLE, Int.reduceLT, Int.reduceAdd, Int.reduceSub, Int.reduceNeg, Int.reduceBEq, Int.reduceBNe, Nat.reduceBNe, Nat.reduceDiv, Nat.reduceMod, f0, f1, f2, f3, ci0]
      obtain ⟨rfl, rfl⟩ := hR
      refine kont_of_hx cx_ok hb 200 ?_
      simp only [go_sem, Nat.reduceAdd, Nat.reduceSub, Nat.reduceMul, Nat.reduceBEq, Nat.reduceLT, Nat.reduceLeDiff, Nat.reduceEqDiff, Int.reduceToNat, Int.reduceLE, Int.reduceLT, Int.reduceAdd, Int.reduceSub, Int.reduceNeg, Int.reduceBEq, Int.reduceBNe, Nat.reduceBNe, Nat.reduceDiv, Nat.reduceMod, f0, f1, f2, f3, ci0]
      repeat (refine And.intro (by first | assumption | omega) ?_)
      refine ⟨_, Weak.to 4 (by (simp only [go_sem, Nat.reduceAdd, Nat.reduceSub, Nat.reduceMul, Nat.reduceBEq, Nat.reduceLT, Nat.reduceLeDiff, Nat.reduceEqDiff, Int.reduceToNat, Int.reduceLE, Int.reduceLT, Int.reduceAdd, Int.reduceSub, Int.reduceNeg, Int.reduceBEq, Int.reduceBNe, Nat.reduceBNe, Nat.reduceDiv, Nat.reduceMod, ci0, ci1, Int.reduceAdd, wi1, Nat.reduceAdd, e1]) <;> simp), ForS.mk (γ) (trivial)⟩
    · obtain ⟨Z, hZ⟩ : ∃ Z, Z = R * 4294967296 := ⟨_, rfl⟩
      have hp : IntKind.u64.wrap (((d0 x : Nat) : Int) * ((d1 y : Nat) : Int)) = ((R : Nat) : Int) := by rw [wu_mul' _ _ (by rw [← hR]; omega), hR]
      have f0 : d0 Z = 0 := by rw [hZ]; unfold d0; omega
      have f1 : d1 Z = R % 4294967296 := by rw [hZ]; unfold d1; omega
      have f2 : d2 Z = R / 4294967296 := by rw [hZ]; unfold d2; omega
      have f3 : d3 Z = 0 := by rw [hZ]; unfold d3; omega
      have e1 : pmD x y 1 + Z = pmD x y 2 := by have := p1; have := p2; omega
      have e2 : pmD x y 1 < 2 ^ 128 := by have := p1; omega
      have e3 : Z < 2 ^ 128 := by rw [hZ]; omega
      have td := tdivB R (by omega)
      refine kont_of_hx cx_ok hb 200 ?_
      simp only [go_sem, Nat.reduceAdd, Nat.reduceSub, Nat.reduceMul, Nat.reduceBEq, Nat.reduceLT, Nat.reduceLeDiff, Nat.reduceEqDiff, Int.reduceToNat, Int.reduceLE, Int.reduceLT, Int.reduceAdd, Int.reduceSub, Int.reduceNeg, Int.reduceBEq, Int.reduceBNe, Nat.reduceBNe, Nat.reduceDiv, Nat.reduceMod, ci1, Nat.reduceAdd]
      refine kont_hax cx_ok hb 200 mixed [(0, true), (1, true), (2, true), (3, true), (4, true), (5, true), (6, true), (7, true)] (by kernel_rfl) (by kernel_rfl) ?_
      simp only [go_sem, Nat.reduceAdd, Nat.reduceSub, Nat.reduceMul, Nat.reduceBEq, Nat.reduceLT, Nat.reduceLeDiff, Nat.reduceEqDiff, Int.reduceToNat, Int.reduceLE, Int.reduceLT, Int.reduceAdd, Int.reduceSub, Int.reduceNeg, Int.reduceBEq, Int.reduceBNe, Nat.reduceBNe, Nat.reduceDiv, Nat.reduceMod, hp, tmodB, td, wi1, wi2, Int.reduceAdd]
      refine ⟨by decide, by decide, ?_⟩
      refine kont_call hb fn91 rfl ?_ (rplus_ok (pmD x y 1) Z e2 e3) (Ret.flat rfl) rfl fun d h hR => ?_
      · simp only [go_sem, Nat.reduceAdd, Nat.reduceSub, Nat.reduceMul, Nat.reduceBEq, Nat.reduceLT, Nat.reduceLeDiff, Nat.reduceEqDiff, Int.reduceToNat, Int.reduceLE, Int.reduceLT, Int.reduceAdd, Int.reduceSub, Int.reduceNeg, Int.reduceBEq, Int.reduceBNe, Nat.reduceBNe, Nat.reduceDiv, Nat.reduceMod, f0, f1, f2, f3, ci0]
      obtain ⟨rfl, rfl⟩ := hR
      refine kont_of_hx cx_ok hb 200 ?_
      simp only [go_sem, Nat.reduceAdd, Nat.reduceSub, Nat.reduceMul, Nat.reduceBEq, Nat.reduceLT, Nat.reduceLeDiff, Nat.reduceEqDiff, Int.reduceToNat, Int.reduceLE, Int.reduceLT, Int.reduceAdd, Int.reduceSub, Int.reduceNeg, Int.reduceBEq, Int.reduceBNe, Nat.reduceBNe, Nat.reduceDiv, Nat.reduceMod, f0, f1, f2, f3, ci0]
      repeat (refine And.intro (by first | assumption | omega) ?_)
      refine ⟨_, Weak.to 4 (by (simp only [go_sem, Nat.reduceAdd, Nat.reduceSub, Nat.reduceMul, Nat.reduceBEq, Nat.reduceLT, Nat.reduceLeDiff, Nat.reduceEqDiff, Int.reduceToNat, Int.reduceLE, Int.reduceLT, Int.reduceAdd, Int.reduceSub, Int.reduceNeg, Int.reduceBEq, Int.reduceBNe, Nat.reduceBNe, Nat.reduceDiv, Nat.reduceMod, ci1, ci2, Int.reduceAdd, wi2, Nat.reduceAdd, e1]) <;> simp), ForS.mk (γ) (trivial)⟩
    · refine kont_of_hx cx_ok hb 200 ?_
      simp only [go_sem, Nat.reduceAdd, Nat.reduceSub, Nat.reduceMul, Nat.reduceBEq, Nat.reduceLT, Nat.reduceLeDiff, Nat.reduceEqDiff, Int.reduceToNat, Int.reduceLE, Int.reduceLT, Int.reduceAdd, Int.reduceSub, Int.reduceNeg, Int.reduceBEq, Int.reduceBNe, Nat.reduceBNe, Nat.reduceDiv, Nat.reduceMod, ci2, Nat.reduceAdd]
      refine kont_of_hx cx_ok hb 200 ?_
      simp only [go_sem, Nat.reduceAdd, Nat.reduceSub, Nat.reduceMul, Nat.reduceBEq, Nat.reduceLT, Nat.reduceLeDiff, Nat.reduceEqDiff, Int.reduceToNat, Int.reduceLE, Int.reduceLT, Int.reduceAdd, Int.reduceSub, Int.reduceNeg, Int.reduceBEq, Int.reduceBNe, Nat.reduceBNe, Nat.reduceDiv, Nat.reduceMod]
      repeat (refine And.intro (by first | assumption | omega) ?_)
      refine ⟨_, Weak.to 4 (by (simp only [go_sem, Nat.reduceAdd, Nat.reduceSub, Nat.reduceMul, Nat.reduceBEq, Nat.reduceLT, Nat.reduceLeDiff, Nat.reduceEqDiff, Int.reduceToNat, Int.reduceLE, Int.reduceLT, Int.reduceAdd, Int.reduceSub, Int.reduceNeg, Int.reduceBEq, Int.reduceBNe, Nat.reduceBNe, Nat.reduceDiv, Nat.reduceMod, ci0, ci1, Int.reduceAdd, wi1, Nat.reduceAdd, Nat.reduceMul]) <;> simp), ForS.mk (γ) (trivial)⟩
  · refine kont_of_hx cx_ok hb 200 ?_
    simp only [go_sem, Nat.reduceAdd, Nat.reduceSub, Nat.reduceMul, Nat.reduceBEq, Nat.reduceLT, Nat.reduceLeDiff, Nat.reduceEqDiff, Int.reduceToNat, Int.reduceLE, Int.reduceLT, Int.reduceAdd, Int.reduceSub, Int.reduceNeg, Int.reduceBEq, Int.reduceBNe, Nat.reduceBNe, Nat.reduceDiv, Nat.reduceMod, ci1]
    refine kont_forF (G := Nat) [4, 5, 6, 7, 8, 17] (fun k => True) (fun k γ => [(20, dint k)]) (fun k γ => [⟨.one, 0, 4, 1, fun _ => [u64 0, u64 0, u64 0, u64 0]⟩, ⟨.one, 0, 4, 1, fun _ => [u64 (d0 x), u64 (d1 x), u64 0, u64 0]⟩, ⟨.one, 0, 4, 1, fun _ => [u64 (d0 y), u64 (d1 y), u64 0, u64 0]⟩, ⟨.one, 0, 4, 1, fun _ => [u64 (d0 (pmD x y (2 + k))), u64 (d1 (pmD x y (2 + k))), u64 (d2 (pmD x y (2 + k))), u64 (d3 (pmD x y (2 + k)))]⟩]) (2) (0) rfl (Weak.to 4 (by (simp only [go_sem, Nat.reduceAdd, Nat.reduceSub, Nat.reduceMul, Nat.reduceBEq, Nat.reduceLT, Nat.reduceLeDiff, Nat.reduceEqDiff, Int.reduceToNat, Int.reduceLE, Int.reduceLT, Int.reduceAdd, Int.reduceSub, Int.reduceNeg, Int.reduceBEq, Int.reduceBNe, Nat.reduceBNe, Nat.reduceDiv, Nat.reduceMod, Nat.add_zero]) <;> simp)) trivial ?_
    intro k γ hk _
    have hk' : k = 0 ∨ k = 1 ∨ k = 2 := by have : k ≤ 2 := hk; omega
    rcases hk' with rfl | rfl | rfl
    · obtain ⟨Z, hZ⟩ : ∃ Z, Z = Q * 4294967296 := ⟨_, rfl⟩
      have hp : IntKind.u64.wrap (((d1 x : Nat) : Int) * ((d0 y : Nat) : Int)) = ((Q : Nat) : Int) := by rw [wu_mul' _ _ (by rw [← hQ]; omega), hQ]
      have f0 : d0 Z = 0 := by rw [hZ]; unfold d0; omega
      have f1 : d1 Z = Q % 4294967296 := by rw [hZ]; unfold d1; omega
      have f2 : d2 Z = Q / 4294967296 := by rw [hZ]; unfold d2; omega
      have f3 : d3 Z = 0 := by rw [hZ]; unfold d3; omega
      have e1 : pmD x y 2 + Z = pmD x y 3 := by have := p2; have := p3; omega
      have e2 : pmD x y 2 < 2 ^ 128 := by have := p2; omega
      have e3 : Z < 2 ^ 128 := by rw [hZ]; omega
      have td := tdivB Q (by omega)
      refine kont_of_hx cx_ok hb 200 ?_
      simp only [go_sem, Nat.reduceAdd, Nat.reduceSub, Nat.reduceMul, Nat.reduceBEq, Nat.reduceLT, Nat.reduceLeDiff, Nat.reduceEqDiff, Int.reduceToNat, Int.reduceLE, Int.reduceLT, Int.reduceAdd, Int.reduceSub, Int.reduceNeg, Int.reduceBEq, Int.reduceBNe, Nat.reduceBNe, Nat.reduceDiv, Nat.reduceMod, ci0, Nat.reduceAdd]
      refine kont_hax cx_ok hb 200 mixed [(0, true), (1, true), (2, true), (3, true), (4, true), (5, true), (6, true), (7, true)] (by kernel_rfl) (by kernel_rfl) ?_
      simp only [go_sem, Nat.reduceAdd, Nat.reduceSub, Nat.reduceMul, Nat.reduceBEq, Nat.reduceLT, Nat.reduceLeDiff, Nat.reduceEqDiff, Int.reduceToNat, Int.reduceLE, Int.reduceLT, Int.reduceAdd, Int.reduceSub, Int.reduceNeg, Int.reduceBEq, Int.reduceBNe, Nat.reduceBNe, Nat.reduceDiv, Nat.reduceMod, hp, tmodB, td, wi1, wi2, Int.reduceAdd]
      refine ⟨by decide, by decide, ?_⟩
      refine kont_call hb fn91 rfl ?_ (rplus_ok (pmD x y 2) Z e2 e3) (Ret.flat rfl) rfl fun d h hR => ?_
      · simp only [go_sem, Nat.reduceAdd, Nat.reduceSub, Nat.reduceMul, Nat.reduceBEq, Nat.reduceLT, Nat.reduceLeDiff, Nat.reduceEqDiff, Int.reduceToNat, Int.reduceLE, Int.reduceLT, Int.reduceAdd, Int.reduceSub, Int.reduceNeg, Int.reduceBEq, Int.reduceBNe, Nat.reduceBNe, Nat.reduceDiv, Nat.reduceMod, f0, f1, f2, f3, ci0]
      obtain ⟨rfl, rfl⟩ := hR
      refine kont_of_hx cx_ok hb 200 ?_
      simp only [go_sem, Nat.reduceAdd, Nat.reduceSub, Nat.reduceMul, Nat.reduceBEq, Nat.reduceLT, Nat.reduceLeDiff, Nat.reduceEqDiff, Int.reduceToNat, Int.reduceLE, Int.reduceLT, Int.reduceAdd, Int.reduceSub, Int.reduceNeg, Int.reduceBEq, Int.reduceBNe, Nat.reduceBNe, Nat.reduceDiv, Nat.reduceMod, f0, f1, f2, f3, ci0]
      repeat (refine And.intro (by first | assumption | omega) ?_)
      refine ⟨_, Weak.to 4 (by (simp only [go_sem, Nat.reduceAdd, Nat.reduceSub, Nat.reduceMul, Nat.reduceBEq, Nat.reduceLT, Nat.reduceLeDiff, Nat.reduceEqDiff, Int.reduceToNat, Int.reduceLE, Int.reduceLT, Int.reduceAdd, Int.reduceSub, Int.reduceNeg, Int.reduceBEq, Int.reduceBNe, Nat.reduceBNe, Nat.reduceDiv, Nat.reduceMod, ci0, ci1, Int.reduceAdd, wi1, Nat.reduceAdd, e1]) <;> simp), ForS.mk (γ) (trivial)⟩
    · obtain ⟨Z, hZ⟩ : ∃ Z, Z = P * 18446744073709551616 := ⟨_, rfl⟩
      have hp : IntKind.u64.wrap (((d1 x : Nat) : Int) * ((d1 y : Nat) : Int)) = ((P : Nat) : Int) := by rw [wu_mul' _ _ (by rw [← hP]; omega), hP]
      have f0 : d0 Z = 0 := by rw [hZ]; unfold d0; omega
      have f1 : d1 Z = 0 := by rw [hZ]; unfold d1; omega
      have f2 : d2 Z = P % 4294967296 := by rw [hZ]; unfold d2; omega
      have f3 : d3 Z = P / 4294967296 := by rw [hZ]; unfold d3; omega
      have e1 : pmD x y 3 + Z = pmD x y 4 := by have := p3; have := p4; omega
      have e2 : pmD x y 3 < 2 ^ 128 := by have := p3; omega
      have e3 : Z < 2 ^ 128 := by rw [hZ]; omega
      have td := tdivB P (by omega)
      refine kont_of_hx cx_ok hb 200 ?_
      simp only [go_sem, Nat.reduceAdd, Nat.reduceSub, Nat.reduceMul, Nat.reduceBEq, Nat.reduceLT, Nat.reduceLeDiff, Nat.reduceEqDiff, Int.reduceToNat, Int.reduceLE, Int.reduceLT, Int.reduceAdd, Int.reduceSub, Int.reduceNeg, Int.reduceBEq, Int.reduceBNe, Nat.reduceBNe, Nat.reduceDiv, Nat.reduceMod, ci1, Nat.reduceAdd]
      refine kont_hax cx_ok hb 200 mixed [(0, true), (1, true), (2, true), (3, true), (4, true), (5, true), (6, true), (7, true)] (by kernel_rfl) (by kernel_rfl) ?_
      simp only [go_sem, Nat.reduceAdd, Nat.reduceSub, Nat.reduceMul, Nat.reduceBEq, Nat.reduceLT, Nat.reduceLeDiff, Nat.reduceEqDiff, Int.reduceToNat, Int.reduceLE, Int.reduceLT, Int.reduceAdd, Int.reduceSub, Int.reduceNeg, Int.reduceBEq, Int.reduceBNe, Nat.reduceBNe, Nat.reduceDiv, Nat.reduceMod, hp, tmodB, td, wi2, wi3, Int.reduceAdd]
      refine ⟨by decide, by decide, ?_⟩
      refine kont_call hb fn91 rfl ?_ (rplus_ok (pmD x y 3) Z e2 e3) (Ret.flat rfl) rfl fun d h hR => ?_
      · simp only [go_sem, Nat.reduceAdd, Nat.reduceSub, Nat.reduceMul, Nat.reduceBEq, Nat.reduceLT, Nat.reduceLeDiff, Nat.reduceEqDiff, Int.reduceToNat, Int.reduceLE, Int.reduceLT, Int.reduceAdd, Int.reduceSub, Int.reduceNeg, Int.reduceBEq, Int.reduceBNe, Nat.reduceBNe, Nat.reduceDiv, Nat.reduceMod, f0, f1, f2, f3, ci0]
      obtain ⟨rfl, rfl⟩ := hR
      refine kont_of_hx cx_ok hb 200 ?_
      simp only [go_sem, Nat.reduceAdd, Nat.reduceSub, Nat.reduceMul, Nat.reduceBEq, Nat.reduceLT, Nat.reduceLeDiff, Nat.reduceEqDiff, Int.reduceToNat, Int.reduceLE, Int.reduceLT, Int.reduceAdd, Int.reduceSub, Int.reduceNeg, Int.reduceBEq, Int.reduceBNe, Nat.reduceBNe, Nat.reduceDiv, Nat.reduceMod, f0, f1, f2, f3, ci0]
      repeat (refine And.intro (by first | assumption | omega) ?_)
      refine ⟨_, Weak.to 4 (by (simp only [go_sem, Nat.reduceAdd, Nat.reduceSub, Nat.reduceMul, Nat.reduceBEq, Nat.reduceLT, Nat.reduceLeDiff, Nat.reduceEqDiff, Int.reduceToNat, Int.reduceLE, Int.reduceLT, Int.reduceAdd, Int.reduceSub, Int.reduceNeg, Int.reduceBEq, Int.reduceBNe, Nat.reduceBNe, Nat.reduceDiv, Nat.reduceMod, ci1, ci2, Int.reduceAdd, wi2, Nat.reduceAdd, e1]) <;> simp), ForS.mk (γ) (trivial)⟩
    · refine kont_of_hx cx_ok hb 200 ?_
      simp only [go_sem, Nat.reduceAdd, Nat.reduceSub, Nat.reduceMul, Nat.reduceBEq, Nat.reduceLT, Nat.reduceLeDiff, Nat.reduceEqDiff, Int.reduceToNat, Int.reduceLE, Int.reduceLT, Int.reduceAdd, Int.reduceSub, Int.reduceNeg, Int.reduceBEq, Int.reduceBNe, Nat.reduceBNe, Nat.reduceDiv, Nat.reduceMod, ci2, Nat.reduceAdd]
      refine kont_of_hx cx_ok hb 200 ?_
      simp only [go_sem, Nat.reduceAdd, Nat.reduceSub, Nat.reduceMul, Nat.reduceBEq, Nat.reduceLT, Nat.reduceLeDiff, Nat.reduceEqDiff, Int.reduceToNat, Int.reduceLE, Int.reduceLT, Int.reduceAdd, Int.reduceSub, Int.reduceNeg, Int.reduceBEq, Int.reduceBNe, Nat.reduceBNe, Nat.reduceDiv, Nat.reduceMod]
      repeat (refine And.intro (by first | assumption | omega) ?_)
      refine ⟨_, Weak.to 4 (by (simp only [go_sem, Nat.reduceAdd, Nat.reduceSub, Nat.reduceMul, Nat.reduceBEq, Nat.reduceLT, Nat.reduceLeDiff, Nat.reduceEqDiff, Int.reduceToNat, Int.reduceLE, Int.reduceLT, Int.reduceAdd, Int.reduceSub, Int.reduceNeg, Int.reduceBEq, Int.reduceBNe, Nat.reduceBNe, Nat.reduceDiv, Nat.reduceMod, ci1, ci2, Int.reduceAdd, wi2, Nat.reduceAdd, Nat.reduceMul]) <;> simp), ForS.mk (γ) (trivial)⟩
  · refine kont_of_hx cx_ok hb 200 ?_
    simp only [go_sem, Nat.reduceAdd, Nat.reduceSub, Nat.reduceMul, Nat.reduceBEq, Nat.reduceLT, Nat.reduceLeDiff, Nat.reduceEqDiff, Int.reduceToNat, Int.reduceLE, Int.reduceLT, Int.reduceAdd, Int.reduceSub, Int.reduceNeg, Int.reduceBEq, Int.reduceBNe, Nat.reduceBNe, Nat.reduceDiv, Nat.reduceMod, ci2, Nat.reduceMul, hend]
    refine kont_of_hx cx_ok hb 200 ?_
    simp only [go_sem, Nat.reduceAdd, Nat.reduceSub, Nat.reduceMul, Nat.reduceBEq, Nat.reduceLT, Nat.reduceLeDiff, Nat.reduceEqDiff, Int.reduceToNat, Int.reduceLE, Int.reduceLT, Int.reduceAdd, Int.reduceSub, Int.reduceNeg, Int.reduceBEq, Int.reduceBNe, Nat.reduceBNe, Nat.reduceDiv, Nat.reduceMod]
end Go.Fg.X
namespace Go.Fg.X
open Go.Proofs Go.Fg
set_option maxRecDepth 100000
set_option maxHeartbeats 4000000
set_option linter.unusedSimpArgs false
set_option linter.unusedVariables false
def cdiv (n d : Nat) : Nat := (n + d - 1) / d
theorem cdiv_eq (n d : Nat) (hd : 0 < d) : cdiv n d = if n % d = 0 then n / d else n / d + 1 := by
  unfold cdiv
  have h1 := Nat.div_add_mod n d
  have h2 := Nat.mod_lt n hd
  split
  · rename_i h
    have : (n + d - 1) / d = n / d ∧ (n + d - 1) % d = d - 1 := (Nat.div_mod_unique hd).2 ⟨by omega, by omega⟩
    exact this.1
  · have : (n + d - 1) / d = n / d + 1 ∧ (n + d - 1) % d = n % d - 1 := (Nat.div_mod_unique hd).2 ⟨by rw [Nat.mul_add]; omega, by omega⟩
    exact this.1
@[go_sem] def got02 (v e : Int) : D := .agg [.raw (.int .u64 v), .raw (.int .i64 e)]
end Go.Fg.X
namespace Go.Fg.X
open Go.Proofs Go.Fg
set_option maxRecDepth 100000
set_option maxHeartbeats 4000000
set_option linter.unusedSimpArgs false
set_option linter.unusedVariables false
theorem div_bound (n d : Nat) (hn : n < 2 ^ 128) (hd : 0 < d) (h : ¬ n % d = 0) : n / d + 1 < 2 ^ 128 := by
  have h2 : 2 ≤ d := by
    rcases Nat.lt_or_ge d 2 with h3 | h3
    · have : d = 1 := by omega
      subst this; omega
    · exact h3
  have := Nat.div_le_div_left (c := 2) (b := d) (a := n) h2 (by decide)
  omega
theorem dz0 : d0 0 = 0 := rfl
theorem dz1 : d1 0 = 0 := rfl
theorem dz2 : d2 0 = 0 := rfl
theorem dz3 : d3 0 = 0 := rfl
theorem c65w : ((65536 : Nat) : Int) = 65536 := rfl
def narV (n : Nat) : Nat := if n < 18446744073709551616 then n else 0
def narE (n : Nat) : Int := if n < 18446744073709551616 then 0 else 20
theorem narrowG_ok (n : Nat) (hn : n < 2 ^ 128) : AFn Tryz.prog 101 [num n] (Ret (.tup [u64 (narV n), dint (narE n)])) := by
  refine AFn_hxk 0 cx_ok 200 Tryz.func101 rfl Tryz.ntmps101 Tryz.results101 rfl fun base w hb => ?_
  simp only [go_sem, Nat.reduceAdd, Nat.reduceSub, Nat.reduceMul, Nat.reduceBEq, Nat.reduceLT, Nat.reduceLeDiff, Nat.reduceEqDiff, Int.reduceToNat, Int.reduceLE, Int.reduceLT, Int.reduceAdd, Int.reduceSub, Int.reduceNeg, Int.reduceBEq, Int.reduceBNe, Nat.reduceBNe, Nat.reduceDiv, Nat.reduceMod]
  by_cases h : n < 18446744073709551616
  · have e1 : ((((n / 18446744073709551616 : Nat)) : Int) != 0) = false := bnF (by omega)
    have e2 : narV n = n := if_pos h
    have e3 : narE n = 0 := if_pos h
    simp only [go_sem, Nat.reduceAdd, Nat.reduceSub, Nat.reduceMul, Nat.reduceBEq, Nat.reduceLT, Nat.reduceLeDiff, Nat.reduceEqDiff, Int.reduceToNat, Int.reduceLE, Int.reduceLT, Int.reduceAdd, Int.reduceSub, Int.reduceNeg, Int.reduceBEq, Int.reduceBNe, Nat.reduceBNe, Nat.reduceDiv, Nat.reduceMod, e1, e2, e3]
    rw [Nat.mod_eq_of_lt h]
  · have e1 : ((((n / 18446744073709551616 : Nat)) : Int) != 0) = true := bnT (by omega)
    have e2 : narV n = 0 := if_neg h
    have e3 : narE n = 20 := if_neg h
    simp only [go_sem, Nat.reduceAdd, Nat.reduceSub, Nat.reduceMul, Nat.reduceBEq, Nat.reduceLT, Nat.reduceLeDiff, Nat.reduceEqDiff, Int.reduceToNat, Int.reduceLE, Int.reduceLT, Int.reduceAdd, Int.reduceSub, Int.reduceNeg, Int.reduceBEq, Int.reduceBNe, Nat.reduceBNe, Nat.reduceDiv, Nat.reduceMod, e1, e2, e3]
theorem floorG_ok (n d : Nat) (hn : n < 2 ^ 128) (hd : d < 18446744073709551616) (h0 : 0 < d) : AFn Tryz.prog 76 [num n, u64 d] (Ret (.tup [u64 (narV (n / d)), dint (narE (n / d))])) := by
  have hdz : d ≠ 0 := by omega
  have hle := Nat.div_le_self n d
  refine AFn_hxk 0 cx_ok 200 Tryz.func76 rfl Tryz.ntmps76 Tryz.results76 rfl fun base w hb => ?_
  simp only [go_sem, Nat.reduceAdd, Nat.reduceSub, Nat.reduceMul, Nat.reduceBEq, Nat.reduceLT, Nat.reduceLeDiff, Nat.reduceEqDiff, Int.reduceToNat, Int.reduceLE, Int.reduceLT, Int.reduceAdd, Int.reduceSub, Int.reduceNeg, Int.reduceBEq, Int.reduceBNe, Nat.reduceBNe, Nat.reduceDiv, Nat.reduceMod]
  refine kont_call hb fn100 rfl ?_ (div_ok n d hn hd) (Ret.flat rfl) rfl fun d h hR => ?_
  · simp only [go_sem, Nat.reduceAdd, Nat.reduceSub, Nat.reduceMul, Nat.reduceBEq, Nat.reduceLT, Nat.reduceLeDiff, Nat.reduceEqDiff, Int.reduceToNat, Int.reduceLE, Int.reduceLT, Int.reduceAdd, Int.reduceSub, Int.reduceNeg, Int.reduceBEq, Int.reduceBNe, Nat.reduceBNe, Nat.reduceDiv, Nat.reduceMod, hdz, if_false]
  obtain ⟨rfl, rfl⟩ := hR
  refine kont_of_hx cx_ok hb 200 ?_
  simp only [go_sem, Nat.reduceAdd, Nat.reduceSub, Nat.reduceMul, Nat.reduceBEq, Nat.reduceLT, Nat.reduceLeDiff, Nat.reduceEqDiff, Int.reduceToNat, Int.reduceLE, Int.reduceLT, Int.reduceAdd, Int.reduceSub, Int.reduceNeg, Int.reduceBEq, Int.reduceBNe, Nat.reduceBNe, Nat.reduceDiv, Nat.reduceMod, hdz, if_false]
  refine kont_call hb fn101 rfl ?_ (narrowG_ok (n / d) (by omega)) (Ret.flat rfl) rfl fun d h hR => ?_
  · simp only [go_sem, Nat.reduceAdd, Nat.reduceSub, Nat.reduceMul, Nat.reduceBEq, Nat.reduceLT, Nat.reduceLeDiff, Nat.reduceEqDiff, Int.reduceToNat, Int.reduceLE, Int.reduceLT, Int.reduceAdd, Int.reduceSub, Int.reduceNeg, Int.reduceBEq, Int.reduceBNe, Nat.reduceBNe, Nat.reduceDiv, Nat.reduceMod]
  obtain ⟨rfl, rfl⟩ := hR
  refine kont_of_hx cx_ok hb 200 ?_
  simp only [go_sem, Nat.reduceAdd, Nat.reduceSub, Nat.reduceMul, Nat.reduceBEq, Nat.reduceLT, Nat.reduceLeDiff, Nat.reduceEqDiff, Int.reduceToNat, Int.reduceLE, Int.reduceLT, Int.reduceAdd, Int.reduceSub, Int.reduceNeg, Int.reduceBEq, Int.reduceBNe, Nat.reduceBNe, Nat.reduceDiv, Nat.reduceMod]
theorem ceilG_ok (n d : Nat) (hn : n < 2 ^ 128) (hd : d < 18446744073709551616) (hd0 : 0 < d) : AFn Tryz.prog 95 [num n, u64 d] (Ret (.tup [u64 (narV (cdiv n d)), dint (narE (cdiv n d))])) := by
  have hc := cdiv_eq n d hd0
  have hdz : d ≠ 0 := by omega
  have hle := Nat.div_le_self n d
  refine AFn_hxk 0 cx_ok 200 Tryz.func95 rfl Tryz.ntmps95 Tryz.results95 rfl fun base w hb => ?_
  simp only [go_sem, Nat.reduceAdd, Nat.reduceSub, Nat.reduceMul, Nat.reduceBEq, Nat.reduceLT, Nat.reduceLeDiff, Nat.reduceEqDiff, Int.reduceToNat, Int.reduceLE, Int.reduceLT, Int.reduceAdd, Int.reduceSub, Int.reduceNeg, Int.reduceBEq, Int.reduceBNe, Nat.reduceBNe, Nat.reduceDiv, Nat.reduceMod]
  refine kont_call hb fn100 rfl ?_ (div_ok n d hn hd) (Ret.flat rfl) rfl fun d h hR => ?_
  · simp only [go_sem, Nat.reduceAdd, Nat.reduceSub, Nat.reduceMul, Nat.reduceBEq, Nat.reduceLT, Nat.reduceLeDiff, Nat.reduceEqDiff, Int.reduceToNat, Int.reduceLE, Int.reduceLT, Int.reduceAdd, Int.reduceSub, Int.reduceNeg, Int.reduceBEq, Int.reduceBNe, Nat.reduceBNe, Nat.reduceDiv, Nat.reduceMod, hdz, if_false]
  obtain ⟨rfl, rfl⟩ := hR
  refine kont_of_hx cx_ok hb 200 ?_
  simp only [go_sem, Nat.reduceAdd, Nat.reduceSub, Nat.reduceMul, Nat.reduceBEq, Nat.reduceLT, Nat.reduceLeDiff, Nat.reduceEqDiff, Int.reduceToNat, Int.reduceLE, Int.reduceLT, Int.reduceAdd, Int.reduceSub, Int.reduceNeg, Int.reduceBEq, Int.reduceBNe, Nat.reduceBNe, Nat.reduceDiv, Nat.reduceMod, hdz, if_false]
  by_cases h : n % d = 0
  · rw [if_pos h] at hc
    have e1 := bnF h
    simp only [go_sem, Nat.reduceAdd, Nat.reduceSub, Nat.reduceMul, Nat.reduceBEq, Nat.reduceLT, Nat.reduceLeDiff, Nat.reduceEqDiff, Int.reduceToNat, Int.reduceLE, Int.reduceLT, Int.reduceAdd, Int.reduceSub, Int.reduceNeg, Int.reduceBEq, Int.reduceBNe, Nat.reduceBNe, Nat.reduceDiv, Nat.reduceMod, e1]
    refine kont_call hb fn101 rfl ?_ (narrowG_ok (n / d) (by omega)) (Ret.flat rfl) rfl fun d h hR => ?_
    · simp only [go_sem, Nat.reduceAdd, Nat.reduceSub, Nat.reduceMul, Nat.reduceBEq, Nat.reduceLT, Nat.reduceLeDiff, Nat.reduceEqDiff, Int.reduceToNat, Int.reduceLE, Int.reduceLT, Int.reduceAdd, Int.reduceSub, Int.reduceNeg, Int.reduceBEq, Int.reduceBNe, Nat.reduceBNe, Nat.reduceDiv, Nat.reduceMod, hc]
    obtain ⟨rfl, rfl⟩ := hR
    refine kont_of_hx cx_ok hb 200 ?_
    simp only [go_sem, Nat.reduceAdd, Nat.reduceSub, Nat.reduceMul, Nat.reduceBEq, Nat.reduceLT, Nat.reduceLeDiff, Nat.reduceEqDiff, Int.reduceToNat, Int.reduceLE, Int.reduceLT, Int.reduceAdd, Int.reduceSub, Int.reduceNeg, Int.reduceBEq, Int.reduceBNe, Nat.reduceBNe, Nat.reduceDiv, Nat.reduceMod, hc]
  · rw [if_neg h] at hc
    have hbb := div_bound n d hn hd0 h
    have e1 := bnT h
    simp only [go_sem, Nat.reduceAdd, Nat.reduceSub, Nat.reduceMul, Nat.reduceBEq, Nat.reduceLT, Nat.reduceLeDiff, Nat.reduceEqDiff, Int.reduceToNat, Int.reduceLE, Int.reduceLT, Int.reduceAdd, Int.reduceSub, Int.reduceNeg, Int.reduceBEq, Int.reduceBNe, Nat.reduceBNe, Nat.reduceDiv, Nat.reduceMod, e1]
    refine kont_hax cx_ok hb 200 mixed [(0, true), (1, false), (2, false), (3, true), (4, true), (5, true), (6, false)] (by kernel_rfl) (by kernel_rfl) ?_
    simp only [go_sem, Nat.reduceAdd, Nat.reduceSub, Nat.reduceMul, Nat.reduceBEq, Nat.reduceLT, Nat.reduceLeDiff, Nat.reduceEqDiff, Int.reduceToNat, Int.reduceLE, Int.reduceLT, Int.reduceAdd, Int.reduceSub, Int.reduceNeg, Int.reduceBEq, Int.reduceBNe, Nat.reduceBNe, Nat.reduceDiv, Nat.reduceMod]
    refine AX_call hb fn79 rfl ?_ (of_ok 1 (by decide)) (Ret.flat rfl) rfl fun d h hR => ?_
    · simp only [go_sem, Nat.reduceAdd, Nat.reduceSub, Nat.reduceMul, Nat.reduceBEq, Nat.reduceLT, Nat.reduceLeDiff, Nat.reduceEqDiff, Int.reduceToNat, Int.reduceLE, Int.reduceLT, Int.reduceAdd, Int.reduceSub, Int.reduceNeg, Int.reduceBEq, Int.reduceBNe, Nat.reduceBNe, Nat.reduceDiv, Nat.reduceMod, ci1]
    obtain ⟨rfl, rfl⟩ := hR
    refine AX_of_hax cx_ok hb ?_
    simp only [go_sem, Nat.reduceAdd, Nat.reduceSub, Nat.reduceMul, Nat.reduceBEq, Nat.reduceLT, Nat.reduceLeDiff, Nat.reduceEqDiff, Int.reduceToNat, Int.reduceLE, Int.reduceLT, Int.reduceAdd, Int.reduceSub, Int.reduceNeg, Int.reduceBEq, Int.reduceBNe, Nat.reduceBNe, Nat.reduceDiv, Nat.reduceMod, ci1]
    refine AX_call hb fn94 rfl ?_ (add_ok (n / d) 1 (by omega) (by decide)) (Ret.flat rfl) rfl fun d h hR => ?_
    · simp only [go_sem, Nat.reduceAdd, Nat.reduceSub, Nat.reduceMul, Nat.reduceBEq, Nat.reduceLT, Nat.reduceLeDiff, Nat.reduceEqDiff, Int.reduceToNat, Int.reduceLE, Int.reduceLT, Int.reduceAdd, Int.reduceSub, Int.reduceNeg, Int.reduceBEq, Int.reduceBNe, Nat.reduceBNe, Nat.reduceDiv, Nat.reduceMod, ci1]
    obtain ⟨rfl, rfl⟩ := hR
    refine AX_of_hax cx_ok hb ?_
    simp only [go_sem, Nat.reduceAdd, Nat.reduceSub, Nat.reduceMul, Nat.reduceBEq, Nat.reduceLT, Nat.reduceLeDiff, Nat.reduceEqDiff, Int.reduceToNat, Int.reduceLE, Int.reduceLT, Int.reduceAdd, Int.reduceSub, Int.reduceNeg, Int.reduceBEq, Int.reduceBNe, Nat.reduceBNe, Nat.reduceDiv, Nat.reduceMod, ci1]
    have e2 : (n / d + 1) % 2 ^ 128 = cdiv n d := by omega
    simp only [go_sem, Nat.reduceAdd, Nat.reduceSub, Nat.reduceMul, Nat.reduceBEq, Nat.reduceLT, Nat.reduceLeDiff, Nat.reduceEqDiff, Int.reduceToNat, Int.reduceLE, Int.reduceLT, Int.reduceAdd, Int.reduceSub, Int.reduceNeg, Int.reduceBEq, Int.reduceBNe, Nat.reduceBNe, Nat.reduceDiv, Nat.reduceMod, e2]
    refine kont_call hb fn101 rfl ?_ (narrowG_ok (cdiv n d) (by omega)) (Ret.flat rfl) rfl fun d h hR => ?_
    · simp only [go_sem, Nat.reduceAdd, Nat.reduceSub, Nat.reduceMul, Nat.reduceBEq, Nat.reduceLT, Nat.reduceLeDiff, Nat.reduceEqDiff, Int.reduceToNat, Int.reduceLE, Int.reduceLT, Int.reduceAdd, Int.reduceSub, Int.reduceNeg, Int.reduceBEq, Int.reduceBNe, Nat.reduceBNe, Nat.reduceDiv, Nat.reduceMod]
    obtain ⟨rfl, rfl⟩ := hR
    refine kont_of_hx cx_ok hb 200 ?_
    simp only [go_sem, Nat.reduceAdd, Nat.reduceSub, Nat.reduceMul, Nat.reduceBEq, Nat.reduceLT, Nat.reduceLeDiff, Nat.reduceEqDiff, Int.reduceToNat, Int.reduceLE, Int.reduceLT, Int.reduceAdd, Int.reduceSub, Int.reduceNeg, Int.reduceBEq, Int.reduceBNe, Nat.reduceBNe, Nat.reduceDiv, Nat.reduceMod]
/-- What a curve is: 0 bad, 1 none, 2 linear, 3 concave, 4 convex. -/
def ofV (a d b : Nat) : Int := if 4294967295 < a ∨ 4294967295 < b ∨ 1048576 < d then 0 else if a = 0 ∧ b = 0 ∧ d = 0 then 1 else if d = 0 ∧ a = b then 2 else if d = 0 then 0 else if b < a then 3 else if a = 0 ∧ 0 < b then 4 else 0
@[go_sem] def crv (a d b : Nat) : D := .agg [u64 a, u64 d, u64 b]
theorem rofc_ok (a d b : Nat) : AFn Tryz.prog 26 [crv a d b] (Ret (dint (ofV a d b))) := by
  refine AFn_hxk 0 cx_ok 200 Tryz.func26 rfl Tryz.ntmps26 Tryz.results26 rfl fun base w hb => ?_
  simp only [go_sem, Nat.reduceAdd, Nat.reduceSub, Nat.reduceMul, Nat.reduceBEq, Nat.reduceLT, Nat.reduceLeDiff, Nat.reduceEqDiff, Int.reduceToNat, Int.reduceLE, Int.reduceLT, Int.reduceAdd, Int.reduceSub, Int.reduceNeg, Int.reduceBEq, Int.reduceBNe, Nat.reduceBNe, Nat.reduceDiv, Nat.reduceMod]
  repeat' (first | ((first | refine hite_dec (fun h => ?_) (fun h => ?_) | refine hite_beq (fun h => ?_) (fun h => ?_) | refine hite_bne (fun h => ?_) (fun h => ?_) | refine hite_intro (fun h => ?_) (fun h => ?_) | refine hite_decA (fun h => ?_) (fun h => ?_) | refine hite_beqA (fun h => ?_) (fun h => ?_) | refine hite_bneA (fun h => ?_) (fun h => ?_) | refine hite_intro' (fun h => ?_) (fun h => ?_)) <;> (try simp only [go_sem, Nat.reduceAdd, Nat.reduceSub, Nat.reduceMul, Nat.reduceBEq, Nat.reduceLT, Nat.reduceLeDiff, Nat.reduceEqDiff, Int.reduceToNat, Int.reduceLE, Int.reduceLT, Int.reduceAdd, Int.reduceSub, Int.reduceNeg, Int.reduceBEq, Int.reduceBNe, Nat.reduceBNe, Nat.reduceDiv, Nat.reduceMod])) | (refine And.intro (by omega) ?_; try simp only [go_sem, Nat.reduceAdd, Nat.reduceSub, Nat.reduceMul, Nat.reduceBEq, Nat.reduceLT, Nat.reduceLeDiff, Nat.reduceEqDiff, Int.reduceToNat, Int.reduceLE, Int.reduceLT, Int.reduceAdd, Int.reduceSub, Int.reduceNeg, Int.reduceBEq, Int.reduceBNe, Nat.reduceBNe, Nat.reduceDiv, Nat.reduceMod]))
  all_goals (congr 2; unfold ofV; (repeat' split) <;> omega)
theorem ofc_ok (a d b : Nat) : AFn Tryz.prog 41 [crv a d b] (Ret (dint (ofV a d b))) := by
  refine AFn_hxk 0 cx_ok 200 Tryz.func41 rfl Tryz.ntmps41 Tryz.results41 rfl fun base w hb => ?_
  simp only [go_sem, Nat.reduceAdd, Nat.reduceSub, Nat.reduceMul, Nat.reduceBEq, Nat.reduceLT, Nat.reduceLeDiff, Nat.reduceEqDiff, Int.reduceToNat, Int.reduceLE, Int.reduceLT, Int.reduceAdd, Int.reduceSub, Int.reduceNeg, Int.reduceBEq, Int.reduceBNe, Nat.reduceBNe, Nat.reduceDiv, Nat.reduceMod]
  repeat' (first | ((first | refine hite_dec (fun h => ?_) (fun h => ?_) | refine hite_beq (fun h => ?_) (fun h => ?_) | refine hite_bne (fun h => ?_) (fun h => ?_) | refine hite_intro (fun h => ?_) (fun h => ?_) | refine hite_decA (fun h => ?_) (fun h => ?_) | refine hite_beqA (fun h => ?_) (fun h => ?_) | refine hite_bneA (fun h => ?_) (fun h => ?_) | refine hite_intro' (fun h => ?_) (fun h => ?_)) <;> (try simp only [go_sem, Nat.reduceAdd, Nat.reduceSub, Nat.reduceMul, Nat.reduceBEq, Nat.reduceLT, Nat.reduceLeDiff, Nat.reduceEqDiff, Int.reduceToNat, Int.reduceLE, Int.reduceLT, Int.reduceAdd, Int.reduceSub, Int.reduceNeg, Int.reduceBEq, Int.reduceBNe, Nat.reduceBNe, Nat.reduceDiv, Nat.reduceMod])) | (refine And.intro (by omega) ?_; try simp only [go_sem, Nat.reduceAdd, Nat.reduceSub, Nat.reduceMul, Nat.reduceBEq, Nat.reduceLT, Nat.reduceLeDiff, Nat.reduceEqDiff, Int.reduceToNat, Int.reduceLE, Int.reduceLT, Int.reduceAdd, Int.reduceSub, Int.reduceNeg, Int.reduceBEq, Int.reduceBNe, Nat.reduceBNe, Nat.reduceDiv, Nat.reduceMod]))
  all_goals (congr 2; (try simp only [Bool.and_eq_true, Bool.and_eq_false_iff, Bool.or_eq_true, Bool.or_eq_false_iff, beq_iff_eq, beq_eq_false_iff_ne, bne_iff_ne, bne_eq_false_iff_eq, decide_eq_true_eq, decide_eq_false_iff_not, ne_eq] at *); (try unfold ofV); (repeat' split) <;> omega)
theorem ofV_cases (a d b : Nat) : ofV a d b = 0 ∨ ofV a d b = 1 ∨ ofV a d b = 2 ∨ ofV a d b = 3 ∨ ofV a d b = 4 := by unfold ofV; (repeat' split) <;> simp
theorem ofV_bounds {a d b : Nat} (h : ofV a d b ≠ 0) : a ≤ 4294967295 ∧ b ≤ 4294967295 ∧ d ≤ 1048576 := by unfold ofV at h; split at h <;> omega
theorem right_ok (a d b : Nat) : AFn Tryz.prog 40 [crv a d b] (Ret (dbool (ofV a d b != 0))) := by
  refine AFn_hxk 0 cx_ok 200 Tryz.func40 rfl Tryz.ntmps40 Tryz.results40 rfl fun base w hb => ?_
  simp only [go_sem, Nat.reduceAdd, Nat.reduceSub, Nat.reduceMul, Nat.reduceBEq, Nat.reduceLT, Nat.reduceLeDiff, Nat.reduceEqDiff, Int.reduceToNat, Int.reduceLE, Int.reduceLT, Int.reduceAdd, Int.reduceSub, Int.reduceNeg, Int.reduceBEq, Int.reduceBNe, Nat.reduceBNe, Nat.reduceDiv, Nat.reduceMod]
  refine kont_call hb fn41 rfl ?_ (ofc_ok a d b) (Ret.flat rfl) rfl fun d h hR => ?_
  · simp only [go_sem, Nat.reduceAdd, Nat.reduceSub, Nat.reduceMul, Nat.reduceBEq, Nat.reduceLT, Nat.reduceLeDiff, Nat.reduceEqDiff, Int.reduceToNat, Int.reduceLE, Int.reduceLT, Int.reduceAdd, Int.reduceSub, Int.reduceNeg, Int.reduceBEq, Int.reduceBNe, Nat.reduceBNe, Nat.reduceDiv, Nat.reduceMod]
  obtain ⟨rfl, rfl⟩ := hR
  refine kont_of_hx cx_ok hb 200 ?_
  simp only [go_sem, Nat.reduceAdd, Nat.reduceSub, Nat.reduceMul, Nat.reduceBEq, Nat.reduceLT, Nat.reduceLeDiff, Nat.reduceEqDiff, Int.reduceToNat, Int.reduceLE, Int.reduceLT, Int.reduceAdd, Int.reduceSub, Int.reduceNeg, Int.reduceBEq, Int.reduceBNe, Nat.reduceBNe, Nat.reduceDiv, Nat.reduceMod]
def serV (a d b t : Nat) : Nat := if ofV a d b = 0 then 0 else a * min t d + b * (t - min t d)
theorem serV_lt (a d b t : Nat) (ht : t < 18446744073709551616) : serV a d b t < 2 ^ 97 := by
  unfold serV
  split
  · decide
  · rename_i h
    obtain ⟨h1, h2, h3⟩ := ofV_bounds h
    have e1 : a * min t d ≤ 4294967295 * 1048576 := Nat.mul_le_mul h1 (by omega)
    have e2 : b * (t - min t d) ≤ 4294967295 * 18446744073709551615 := Nat.mul_le_mul h2 (by omega)
    exact Nat.lt_of_le_of_lt (Nat.add_le_add e1 e2) (by decide)
theorem minU (a b : Nat) : (min (a : Int) (b : Int)) = ((min a b : Nat) : Int) := by omega
theorem service_ok (a d b t : Nat) (ht : t < 18446744073709551616) : AFn Tryz.prog 66 [crv a d b, u64 t] (Ret (num (serV a d b t))) := by
  refine AFn_hxk 0 cx_ok 200 Tryz.func66 rfl Tryz.ntmps66 Tryz.results66 rfl fun base w hb => ?_
  simp only [go_sem, Nat.reduceAdd, Nat.reduceSub, Nat.reduceMul, Nat.reduceBEq, Nat.reduceLT, Nat.reduceLeDiff, Nat.reduceEqDiff, Int.reduceToNat, Int.reduceLE, Int.reduceLT, Int.reduceAdd, Int.reduceSub, Int.reduceNeg, Int.reduceBEq, Int.reduceBNe, Nat.reduceBNe, Nat.reduceDiv, Nat.reduceMod]
  refine kont_call hb fn40 rfl ?_ (right_ok a d b) (Ret.flat rfl) rfl fun d h hR => ?_
  · simp only [go_sem, Nat.reduceAdd, Nat.reduceSub, Nat.reduceMul, Nat.reduceBEq, Nat.reduceLT, Nat.reduceLeDiff, Nat.reduceEqDiff, Int.reduceToNat, Int.reduceLE, Int.reduceLT, Int.reduceAdd, Int.reduceSub, Int.reduceNeg, Int.reduceBEq, Int.reduceBNe, Nat.reduceBNe, Nat.reduceDiv, Nat.reduceMod]
  obtain ⟨rfl, rfl⟩ := hR
  refine kont_of_hx cx_ok hb 200 ?_
  simp only [go_sem, Nat.reduceAdd, Nat.reduceSub, Nat.reduceMul, Nat.reduceBEq, Nat.reduceLT, Nat.reduceLeDiff, Nat.reduceEqDiff, Int.reduceToNat, Int.reduceLE, Int.reduceLT, Int.reduceAdd, Int.reduceSub, Int.reduceNeg, Int.reduceBEq, Int.reduceBNe, Nat.reduceBNe, Nat.reduceDiv, Nat.reduceMod]
  by_cases h : ofV a d b = 0
  · have e1 : serV a d b t = 0 := if_pos h
    have e2 : (ofV a d b != 0) = false := by simp [h]
    simp only [go_sem, Nat.reduceAdd, Nat.reduceSub, Nat.reduceMul, Nat.reduceBEq, Nat.reduceLT, Nat.reduceLeDiff, Nat.reduceEqDiff, Int.reduceToNat, Int.reduceLE, Int.reduceLT, Int.reduceAdd, Int.reduceSub, Int.reduceNeg, Int.reduceBEq, Int.reduceBNe, Nat.reduceBNe, Nat.reduceDiv, Nat.reduceMod, e1, e2]
  · have e1 : serV a d b t = a * min t d + b * (t - min t d) := if_neg h
    have e2 : (ofV a d b != 0) = true := by simp [h]
    obtain ⟨h1, h2, h3⟩ := ofV_bounds h
    have e3 := wu_sub' t (min t d) (by omega) ht
    have b1 : a * min t d ≤ 4294967295 * 1048576 := Nat.mul_le_mul h1 (by omega)
    have b2 : b * (t - min t d) ≤ 4294967295 * 18446744073709551615 := Nat.mul_le_mul h2 (by omega)
    simp only [go_sem, Nat.reduceAdd, Nat.reduceSub, Nat.reduceMul, Nat.reduceBEq, Nat.reduceLT, Nat.reduceLeDiff, Nat.reduceEqDiff, Int.reduceToNat, Int.reduceLE, Int.reduceLT, Int.reduceAdd, Int.reduceSub, Int.reduceNeg, Int.reduceBEq, Int.reduceBNe, Nat.reduceBNe, Nat.reduceDiv, Nat.reduceMod, e1, e2, minU, e3]
    refine kont_hax cx_ok hb 200 mixed [(0, true), (1, true), (2, true), (4, true), (5, true), (6, true), (7, true), (8, true), (3, false), (9, false), (10, false), (11, true), (12, true), (13, true), (14, false), (15, false), (16, true)] (by kernel_rfl) (by kernel_rfl) ?_
    simp only [go_sem, Nat.reduceAdd, Nat.reduceSub, Nat.reduceMul, Nat.reduceBEq, Nat.reduceLT, Nat.reduceLeDiff, Nat.reduceEqDiff, Int.reduceToNat, Int.reduceLE, Int.reduceLT, Int.reduceAdd, Int.reduceSub, Int.reduceNeg, Int.reduceBEq, Int.reduceBNe, Nat.reduceBNe, Nat.reduceDiv, Nat.reduceMod, minU, e3]
    refine AX_call hb fn35 rfl ?_ (mul_ok a (min t d) (by omega) (by omega)) (Ret.flat rfl) rfl fun d h hR => ?_
    · simp only [go_sem, Nat.reduceAdd, Nat.reduceSub, Nat.reduceMul, Nat.reduceBEq, Nat.reduceLT, Nat.reduceLeDiff, Nat.reduceEqDiff, Int.reduceToNat, Int.reduceLE, Int.reduceLT, Int.reduceAdd, Int.reduceSub, Int.reduceNeg, Int.reduceBEq, Int.reduceBNe, Nat.reduceBNe, Nat.reduceDiv, Nat.reduceMod, minU, e3]
    obtain ⟨rfl, rfl⟩ := hR
    refine AX_of_hax cx_ok hb ?_
    simp only [go_sem, Nat.reduceAdd, Nat.reduceSub, Nat.reduceMul, Nat.reduceBEq, Nat.reduceLT, Nat.reduceLeDiff, Nat.reduceEqDiff, Int.reduceToNat, Int.reduceLE, Int.reduceLT, Int.reduceAdd, Int.reduceSub, Int.reduceNeg, Int.reduceBEq, Int.reduceBNe, Nat.reduceBNe, Nat.reduceDiv, Nat.reduceMod, minU, e3]
    refine AX_call hb fn35 rfl ?_ (mul_ok b (t - min t d) (by omega) (by omega)) (Ret.flat rfl) rfl fun d h hR => ?_
    · simp only [go_sem, Nat.reduceAdd, Nat.reduceSub, Nat.reduceMul, Nat.reduceBEq, Nat.reduceLT, Nat.reduceLeDiff, Nat.reduceEqDiff, Int.reduceToNat, Int.reduceLE, Int.reduceLT, Int.reduceAdd, Int.reduceSub, Int.reduceNeg, Int.reduceBEq, Int.reduceBNe, Nat.reduceBNe, Nat.reduceDiv, Nat.reduceMod, minU, e3]
    obtain ⟨rfl, rfl⟩ := hR
    refine AX_of_hax cx_ok hb ?_
    simp only [go_sem, Nat.reduceAdd, Nat.reduceSub, Nat.reduceMul, Nat.reduceBEq, Nat.reduceLT, Nat.reduceLeDiff, Nat.reduceEqDiff, Int.reduceToNat, Int.reduceLE, Int.reduceLT, Int.reduceAdd, Int.reduceSub, Int.reduceNeg, Int.reduceBEq, Int.reduceBNe, Nat.reduceBNe, Nat.reduceDiv, Nat.reduceMod, minU, e3]
    refine AX_call hb fn94 rfl ?_ (add_ok (a * min t d) (b * (t - min t d)) (by omega) (by omega)) (Ret.flat rfl) rfl fun d h hR => ?_
    · simp only [go_sem, Nat.reduceAdd, Nat.reduceSub, Nat.reduceMul, Nat.reduceBEq, Nat.reduceLT, Nat.reduceLeDiff, Nat.reduceEqDiff, Int.reduceToNat, Int.reduceLE, Int.reduceLT, Int.reduceAdd, Int.reduceSub, Int.reduceNeg, Int.reduceBEq, Int.reduceBNe, Nat.reduceBNe, Nat.reduceDiv, Nat.reduceMod, minU, e3]
    obtain ⟨rfl, rfl⟩ := hR
    refine AX_of_hax cx_ok hb ?_
    simp only [go_sem, Nat.reduceAdd, Nat.reduceSub, Nat.reduceMul, Nat.reduceBEq, Nat.reduceLT, Nat.reduceLeDiff, Nat.reduceEqDiff, Int.reduceToNat, Int.reduceLE, Int.reduceLT, Int.reduceAdd, Int.reduceSub, Int.reduceNeg, Int.reduceBEq, Int.reduceBNe, Nat.reduceBNe, Nat.reduceDiv, Nat.reduceMod, minU, e3]
    rw [Nat.mod_eq_of_lt (by omega)]
theorem rservice_ok (a d b t : Nat) (ht : t < 18446744073709551616) : AFn Tryz.prog 92 [crv a d b, u64 t] (Ret (dg (serV a d b t))) := by
  refine AFn_hxk 0 cx_ok 200 Tryz.func92 rfl Tryz.ntmps92 Tryz.results92 rfl fun base w hb => ?_
  simp only [go_sem, Nat.reduceAdd, Nat.reduceSub, Nat.reduceMul, Nat.reduceBEq, Nat.reduceLT, Nat.reduceLeDiff, Nat.reduceEqDiff, Int.reduceToNat, Int.reduceLE, Int.reduceLT, Int.reduceAdd, Int.reduceSub, Int.reduceNeg, Int.reduceBEq, Int.reduceBNe, Nat.reduceBNe, Nat.reduceDiv, Nat.reduceMod]
  refine kont_call hb fn26 rfl ?_ (rofc_ok a d b) (Ret.flat rfl) rfl fun d h hR => ?_
  · simp only [go_sem, Nat.reduceAdd, Nat.reduceSub, Nat.reduceMul, Nat.reduceBEq, Nat.reduceLT, Nat.reduceLeDiff, Nat.reduceEqDiff, Int.reduceToNat, Int.reduceLE, Int.reduceLT, Int.reduceAdd, Int.reduceSub, Int.reduceNeg, Int.reduceBEq, Int.reduceBNe, Nat.reduceBNe, Nat.reduceDiv, Nat.reduceMod]
  obtain ⟨rfl, rfl⟩ := hR
  refine kont_of_hx cx_ok hb 200 ?_
  simp only [go_sem, Nat.reduceAdd, Nat.reduceSub, Nat.reduceMul, Nat.reduceBEq, Nat.reduceLT, Nat.reduceLeDiff, Nat.reduceEqDiff, Int.reduceToNat, Int.reduceLE, Int.reduceLT, Int.reduceAdd, Int.reduceSub, Int.reduceNeg, Int.reduceBEq, Int.reduceBNe, Nat.reduceBNe, Nat.reduceDiv, Nat.reduceMod]
  by_cases h : ofV a d b = 0
  · have e1 : serV a d b t = 0 := if_pos h
    have e2 : (ofV a d b == 0) = true := by simp [h]
    simp only [go_sem, Nat.reduceAdd, Nat.reduceSub, Nat.reduceMul, Nat.reduceBEq, Nat.reduceLT, Nat.reduceLeDiff, Nat.reduceEqDiff, Int.reduceToNat, Int.reduceLE, Int.reduceLT, Int.reduceAdd, Int.reduceSub, Int.reduceNeg, Int.reduceBEq, Int.reduceBNe, Nat.reduceBNe, Nat.reduceDiv, Nat.reduceMod, e1, e2]
    rfl
  · have e1 : serV a d b t = a * min t d + b * (t - min t d) := if_neg h
    have e2 : (ofV a d b == 0) = false := by simp [h]
    obtain ⟨h1, h2, h3⟩ := ofV_bounds h
    have b2 : b * (t - min t d) ≤ 4294967295 * 18446744073709551615 := Nat.mul_le_mul h2 (by omega)
    by_cases h4 : t ≤ d
    · have e3 : decide (t ≤ d) = true := decide_eq_true h4
      have e4 : serV a d b t = a * t := by rw [e1, Nat.min_eq_left h4, Nat.sub_self, Nat.mul_zero, Nat.add_zero]
      simp only [go_sem, Nat.reduceAdd, Nat.reduceSub, Nat.reduceMul, Nat.reduceBEq, Nat.reduceLT, Nat.reduceLeDiff, Nat.reduceEqDiff, Int.reduceToNat, Int.reduceLE, Int.reduceLT, Int.reduceAdd, Int.reduceSub, Int.reduceNeg, Int.reduceBEq, Int.reduceBNe, Nat.reduceBNe, Nat.reduceDiv, Nat.reduceMod, e2, e3]
      refine kont_call hb fn89 rfl ?_ (rmul_ok a t (by omega) ht) (Ret.flat rfl) rfl fun d h hR => ?_
      · simp only [go_sem, Nat.reduceAdd, Nat.reduceSub, Nat.reduceMul, Nat.reduceBEq, Nat.reduceLT, Nat.reduceLeDiff, Nat.reduceEqDiff, Int.reduceToNat, Int.reduceLE, Int.reduceLT, Int.reduceAdd, Int.reduceSub, Int.reduceNeg, Int.reduceBEq, Int.reduceBNe, Nat.reduceBNe, Nat.reduceDiv, Nat.reduceMod, e4]
      obtain ⟨rfl, rfl⟩ := hR
      refine kont_of_hx cx_ok hb 200 ?_
      simp only [go_sem, Nat.reduceAdd, Nat.reduceSub, Nat.reduceMul, Nat.reduceBEq, Nat.reduceLT, Nat.reduceLeDiff, Nat.reduceEqDiff, Int.reduceToNat, Int.reduceLE, Int.reduceLT, Int.reduceAdd, Int.reduceSub, Int.reduceNeg, Int.reduceBEq, Int.reduceBNe, Nat.reduceBNe, Nat.reduceDiv, Nat.reduceMod, e4]
    · have e3 : decide (t ≤ d) = false := decide_eq_false h4
      have e4 : serV a d b t = a * d + b * (t - d) := by rw [e1, Nat.min_eq_right (by omega)]
      have b1 : a * d ≤ 4294967295 * 1048576 := Nat.mul_le_mul h1 (by omega)
      have e5 := wu_sub' t d (by omega) ht
      rw [Nat.min_eq_right (by omega)] at b2
      simp only [go_sem, Nat.reduceAdd, Nat.reduceSub, Nat.reduceMul, Nat.reduceBEq, Nat.reduceLT, Nat.reduceLeDiff, Nat.reduceEqDiff, Int.reduceToNat, Int.reduceLE, Int.reduceLT, Int.reduceAdd, Int.reduceSub, Int.reduceNeg, Int.reduceBEq, Int.reduceBNe, Nat.reduceBNe, Nat.reduceDiv, Nat.reduceMod, e2, e3]
      refine kont_hax cx_ok hb 200 mixed [(0, true), (1, true), (2, true), (3, true), (5, true), (6, true), (7, true), (8, true), (9, true), (10, true), (4, false), (11, false), (12, false), (13, false)] (by kernel_rfl) (by kernel_rfl) ?_
      simp only [go_sem, Nat.reduceAdd, Nat.reduceSub, Nat.reduceMul, Nat.reduceBEq, Nat.reduceLT, Nat.reduceLeDiff, Nat.reduceEqDiff, Int.reduceToNat, Int.reduceLE, Int.reduceLT, Int.reduceAdd, Int.reduceSub, Int.reduceNeg, Int.reduceBEq, Int.reduceBNe, Nat.reduceBNe, Nat.reduceDiv, Nat.reduceMod, e5]
      refine AX_call hb fn89 rfl ?_ (rmul_ok a d (by omega) (by omega)) (Ret.flat rfl) rfl fun d h hR => ?_
      · simp only [go_sem, Nat.reduceAdd, Nat.reduceSub, Nat.reduceMul, Nat.reduceBEq, Nat.reduceLT, Nat.reduceLeDiff, Nat.reduceEqDiff, Int.reduceToNat, Int.reduceLE, Int.reduceLT, Int.reduceAdd, Int.reduceSub, Int.reduceNeg, Int.reduceBEq, Int.reduceBNe, Nat.reduceBNe, Nat.reduceDiv, Nat.reduceMod, e5]
      obtain ⟨rfl, rfl⟩ := hR
      refine AX_of_hax cx_ok hb ?_
      simp only [go_sem, Nat.reduceAdd, Nat.reduceSub, Nat.reduceMul, Nat.reduceBEq, Nat.reduceLT, Nat.reduceLeDiff, Nat.reduceEqDiff, Int.reduceToNat, Int.reduceLE, Int.reduceLT, Int.reduceAdd, Int.reduceSub, Int.reduceNeg, Int.reduceBEq, Int.reduceBNe, Nat.reduceBNe, Nat.reduceDiv, Nat.reduceMod, e5]
      refine AX_call hb fn89 rfl ?_ (rmul_ok b (t - d) (by omega) (by omega)) (Ret.flat rfl) rfl fun d h hR => ?_
      · simp only [go_sem, Nat.reduceAdd, Nat.reduceSub, Nat.reduceMul, Nat.reduceBEq, Nat.reduceLT, Nat.reduceLeDiff, Nat.reduceEqDiff, Int.reduceToNat, Int.reduceLE, Int.reduceLT, Int.reduceAdd, Int.reduceSub, Int.reduceNeg, Int.reduceBEq, Int.reduceBNe, Nat.reduceBNe, Nat.reduceDiv, Nat.reduceMod, e5]
      obtain ⟨rfl, rfl⟩ := hR
      refine AX_of_hax cx_ok hb ?_
      simp only [go_sem, Nat.reduceAdd, Nat.reduceSub, Nat.reduceMul, Nat.reduceBEq, Nat.reduceLT, Nat.reduceLeDiff, Nat.reduceEqDiff, Int.reduceToNat, Int.reduceLE, Int.reduceLT, Int.reduceAdd, Int.reduceSub, Int.reduceNeg, Int.reduceBEq, Int.reduceBNe, Nat.reduceBNe, Nat.reduceDiv, Nat.reduceMod, e5]
      refine AX_call hb fn91 rfl ?_ (rplus_ok (a * d) (b * (t - d)) (by omega) (by omega)) (Ret.flat rfl) rfl fun d h hR => ?_
      · simp only [go_sem, Nat.reduceAdd, Nat.reduceSub, Nat.reduceMul, Nat.reduceBEq, Nat.reduceLT, Nat.reduceLeDiff, Nat.reduceEqDiff, Int.reduceToNat, Int.reduceLE, Int.reduceLT, Int.reduceAdd, Int.reduceSub, Int.reduceNeg, Int.reduceBEq, Int.reduceBNe, Nat.reduceBNe, Nat.reduceDiv, Nat.reduceMod, e4]
      obtain ⟨rfl, rfl⟩ := hR
      refine AX_of_hax cx_ok hb ?_
      simp only [go_sem, Nat.reduceAdd, Nat.reduceSub, Nat.reduceMul, Nat.reduceBEq, Nat.reduceLT, Nat.reduceLeDiff, Nat.reduceEqDiff, Int.reduceToNat, Int.reduceLE, Int.reduceLT, Int.reduceAdd, Int.reduceSub, Int.reduceNeg, Int.reduceBEq, Int.reduceBNe, Nat.reduceBNe, Nat.reduceDiv, Nat.reduceMod, e4]
end Go.Fg.X
namespace Go.Fg.X
open Go.Proofs Go.Fg
set_option maxRecDepth 100000
set_option maxHeartbeats 4000000
set_option linter.unusedSimpArgs false
set_option linter.unusedVariables false
/-! Ticks of curves: plain values. -/
def togV (a b : Nat) : Nat := min (a + b) 9223372036854775808
def behV (w s : Nat) : Nat := if s = 0 then 9223372036854775808 else min (cdiv w s) 9223372036854775808
def overV (w s f : Nat) : Nat := if s = 0 then 9223372036854775808 else min (f + cdiv w s) 9223372036854775808
def tickV (a d b w : Nat) : Nat := if ofV a d b = 0 then 9223372036854775808 else if w = 0 then 0 else if w ≤ serV a d b d then behV w a else overV (w - serV a d b d) b d
theorem togV_le (a b : Nat) : togV a b ≤ 9223372036854775808 := Nat.min_le_right _ _
theorem behV_le (a b : Nat) : behV a b ≤ 9223372036854775808 := by unfold behV; split <;> omega
theorem overV_le (a b c : Nat) : overV a b c ≤ 9223372036854775808 := by unfold overV; split <;> omega
theorem tickV_le (a d b w : Nat) : tickV a d b w ≤ 9223372036854775808 := by
  unfold tickV; (repeat' split) <;> first | omega | exact behV_le _ _ | exact overV_le _ _ _
theorem wu_nat (n : Nat) (h : n < 18446744073709551616) : IntKind.u64.wrap (n : Int) = (n : Int) := by rw [IntKind.wrap_u64]; omega
theorem together_ok (a b : Nat) (ha : a < 18446744073709551616) (hb0 : b < 18446744073709551616) : AFn Tryz.prog 33 [u64 a, u64 b] (Ret (u64 (togV a b))) := by
  have h1 := wu_sub 9223372036854775808 a (by omega)
  have h2 := wu_add a b
  refine AFn_hxk 0 cx_ok 200 Tryz.func33 rfl Tryz.ntmps33 Tryz.results33 rfl fun base w hb => ?_
  simp only [go_sem, Nat.reduceAdd, Nat.reduceSub, Nat.reduceMul, Nat.reduceBEq, Nat.reduceLT, Nat.reduceLeDiff, Nat.reduceEqDiff, Int.reduceToNat, Int.reduceLE, Int.reduceLT, Int.reduceAdd, Int.reduceSub, Int.reduceNeg, Int.reduceBEq, Int.reduceBNe, Nat.reduceBNe, Nat.reduceDiv, Nat.reduceMod]
  repeat' (first | ((first | refine hite_dec (fun h => ?_) (fun h => ?_) | refine hite_beq (fun h => ?_) (fun h => ?_) | refine hite_bne (fun h => ?_) (fun h => ?_) | refine hite_intro (fun h => ?_) (fun h => ?_) | refine hite_decA (fun h => ?_) (fun h => ?_) | refine hite_beqA (fun h => ?_) (fun h => ?_) | refine hite_bneA (fun h => ?_) (fun h => ?_) | refine hite_intro' (fun h => ?_) (fun h => ?_)) <;> (try simp only [go_sem, Nat.reduceAdd, Nat.reduceSub, Nat.reduceMul, Nat.reduceBEq, Nat.reduceLT, Nat.reduceLeDiff, Nat.reduceEqDiff, Int.reduceToNat, Int.reduceLE, Int.reduceLT, Int.reduceAdd, Int.reduceSub, Int.reduceNeg, Int.reduceBEq, Int.reduceBNe, Nat.reduceBNe, Nat.reduceDiv, Nat.reduceMod, Go.undef, h2])) | (refine And.intro (by first | assumption | omega) ?_; try simp only [go_sem, Nat.reduceAdd, Nat.reduceSub, Nat.reduceMul, Nat.reduceBEq, Nat.reduceLT, Nat.reduceLeDiff, Nat.reduceEqDiff, Int.reduceToNat, Int.reduceLE, Int.reduceLT, Int.reduceAdd, Int.reduceSub, Int.reduceNeg, Int.reduceBEq, Int.reduceBNe, Nat.reduceBNe, Nat.reduceDiv, Nat.reduceMod, Go.undef, h2]) | fail)
  all_goals (simp only [IntKind.wrap_u64] at *; congr 2; unfold togV; omega)
theorem ceil0_ok (n : Nat) (hn : n < 2 ^ 128) : AFn Tryz.prog 95 [num n, u64 0] (Ret (.tup [u64 0, dint 1])) := by
  have hd : AFn Tryz.prog 100 [num n, u64 0] (Ret (.tup [num 0, u64 0, dint 1])) := by have := div_ok n 0 hn (by decide); simpa only [if_true] using this
  refine AFn_hxk 0 cx_ok 200 Tryz.func95 rfl Tryz.ntmps95 Tryz.results95 rfl fun base w hb => ?_
  simp only [go_sem, Nat.reduceAdd, Nat.reduceSub, Nat.reduceMul, Nat.reduceBEq, Nat.reduceLT, Nat.reduceLeDiff, Nat.reduceEqDiff, Int.reduceToNat, Int.reduceLE, Int.reduceLT, Int.reduceAdd, Int.reduceSub, Int.reduceNeg, Int.reduceBEq, Int.reduceBNe, Nat.reduceBNe, Nat.reduceDiv, Nat.reduceMod]
  refine kont_call hb fn100 rfl ?_ hd (Ret.flat rfl) rfl fun d h hR => ?_
  · simp only [go_sem, Nat.reduceAdd, Nat.reduceSub, Nat.reduceMul, Nat.reduceBEq, Nat.reduceLT, Nat.reduceLeDiff, Nat.reduceEqDiff, Int.reduceToNat, Int.reduceLE, Int.reduceLT, Int.reduceAdd, Int.reduceSub, Int.reduceNeg, Int.reduceBEq, Int.reduceBNe, Nat.reduceBNe, Nat.reduceDiv, Nat.reduceMod]
  obtain ⟨rfl, rfl⟩ := hR
  refine kont_of_hx cx_ok hb 200 ?_
  simp only [go_sem, Nat.reduceAdd, Nat.reduceSub, Nat.reduceMul, Nat.reduceBEq, Nat.reduceLT, Nat.reduceLeDiff, Nat.reduceEqDiff, Int.reduceToNat, Int.reduceLE, Int.reduceLT, Int.reduceAdd, Int.reduceSub, Int.reduceNeg, Int.reduceBEq, Int.reduceBNe, Nat.reduceBNe, Nat.reduceDiv, Nat.reduceMod]
theorem behind_ok (n s : Nat) (hn : n < 2 ^ 128) (hs : s < 18446744073709551616) : AFn Tryz.prog 68 [num n, u64 s] (Ret (u64 (behV n s))) := by
  by_cases h0 : s = 0
  · subst h0
    refine AFn_hxk 0 cx_ok 200 Tryz.func68 rfl Tryz.ntmps68 Tryz.results68 rfl fun base w hb => ?_
    simp only [go_sem, Nat.reduceAdd, Nat.reduceSub, Nat.reduceMul, Nat.reduceBEq, Nat.reduceLT, Nat.reduceLeDiff, Nat.reduceEqDiff, Int.reduceToNat, Int.reduceLE, Int.reduceLT, Int.reduceAdd, Int.reduceSub, Int.reduceNeg, Int.reduceBEq, Int.reduceBNe, Nat.reduceBNe, Nat.reduceDiv, Nat.reduceMod]
    refine kont_call hb fn95 rfl ?_ (ceil0_ok n hn) (Ret.flat rfl) rfl fun d h hR => ?_
    · simp only [go_sem, Nat.reduceAdd, Nat.reduceSub, Nat.reduceMul, Nat.reduceBEq, Nat.reduceLT, Nat.reduceLeDiff, Nat.reduceEqDiff, Int.reduceToNat, Int.reduceLE, Int.reduceLT, Int.reduceAdd, Int.reduceSub, Int.reduceNeg, Int.reduceBEq, Int.reduceBNe, Nat.reduceBNe, Nat.reduceDiv, Nat.reduceMod]
    obtain ⟨rfl, rfl⟩ := hR
    refine kont_of_hx cx_ok hb 200 ?_
    simp only [go_sem, Nat.reduceAdd, Nat.reduceSub, Nat.reduceMul, Nat.reduceBEq, Nat.reduceLT, Nat.reduceLeDiff, Nat.reduceEqDiff, Int.reduceToNat, Int.reduceLE, Int.reduceLT, Int.reduceAdd, Int.reduceSub, Int.reduceNeg, Int.reduceBEq, Int.reduceBNe, Nat.reduceBNe, Nat.reduceDiv, Nat.reduceMod]
    rfl
  · have hc := ceilG_ok n s hn hs (by omega)
    refine AFn_hxk 0 cx_ok 200 Tryz.func68 rfl Tryz.ntmps68 Tryz.results68 rfl fun base w hb => ?_
    simp only [go_sem, Nat.reduceAdd, Nat.reduceSub, Nat.reduceMul, Nat.reduceBEq, Nat.reduceLT, Nat.reduceLeDiff, Nat.reduceEqDiff, Int.reduceToNat, Int.reduceLE, Int.reduceLT, Int.reduceAdd, Int.reduceSub, Int.reduceNeg, Int.reduceBEq, Int.reduceBNe, Nat.reduceBNe, Nat.reduceDiv, Nat.reduceMod]
    refine kont_call hb fn95 rfl ?_ hc (Ret.flat rfl) rfl fun d h hR => ?_
    · simp only [go_sem, Nat.reduceAdd, Nat.reduceSub, Nat.reduceMul, Nat.reduceBEq, Nat.reduceLT, Nat.reduceLeDiff, Nat.reduceEqDiff, Int.reduceToNat, Int.reduceLE, Int.reduceLT, Int.reduceAdd, Int.reduceSub, Int.reduceNeg, Int.reduceBEq, Int.reduceBNe, Nat.reduceBNe, Nat.reduceDiv, Nat.reduceMod]
    obtain ⟨rfl, rfl⟩ := hR
    refine kont_of_hx cx_ok hb 200 ?_
    simp only [go_sem, Nat.reduceAdd, Nat.reduceSub, Nat.reduceMul, Nat.reduceBEq, Nat.reduceLT, Nat.reduceLeDiff, Nat.reduceEqDiff, Int.reduceToNat, Int.reduceLE, Int.reduceLT, Int.reduceAdd, Int.reduceSub, Int.reduceNeg, Int.reduceBEq, Int.reduceBNe, Nat.reduceBNe, Nat.reduceDiv, Nat.reduceMod]
    by_cases h1 : cdiv n s < 18446744073709551616
    · have e1 : narE (cdiv n s) = 0 := by rw [narE, if_pos h1]
      have e2 : narV (cdiv n s) = cdiv n s := by rw [narV, if_pos h1]
      simp only [e1, e2, go_sem, Nat.reduceAdd, Nat.reduceSub, Nat.reduceMul, Nat.reduceBEq, Nat.reduceLT, Nat.reduceLeDiff, Nat.reduceEqDiff, Int.reduceToNat, Int.reduceLE, Int.reduceLT, Int.reduceAdd, Int.reduceSub, Int.reduceNeg, Int.reduceBEq, Int.reduceBNe, Nat.reduceBNe, Nat.reduceDiv, Nat.reduceMod]
      congr 2; unfold behV; rw [if_neg h0]; omega
    · have e1 : narE (cdiv n s) = 20 := by rw [narE, if_neg h1]
      simp only [e1, go_sem, Nat.reduceAdd, Nat.reduceSub, Nat.reduceMul, Nat.reduceBEq, Nat.reduceLT, Nat.reduceLeDiff, Nat.reduceEqDiff, Int.reduceToNat, Int.reduceLE, Int.reduceLT, Int.reduceAdd, Int.reduceSub, Int.reduceNeg, Int.reduceBEq, Int.reduceBNe, Nat.reduceBNe, Nat.reduceDiv, Nat.reduceMod]
      congr 2; unfold behV; rw [if_neg h0]; omega
theorem num_zero (n : Nat) (hn : n < 2 ^ 128) : ((((n / 18446744073709551616 : Nat) : Int) == 0) && (((n % 18446744073709551616 : Nat) : Int) == 0)) = decide (n = 0) := by
  rw [Bool.eq_iff_iff]; simp; omega
theorem cmp_le (a b : Nat) : (decide ((if a < b then (-1 : Int) else if a = b then 0 else 1) ≤ 0)) = decide (a ≤ b) := by
  rw [Bool.eq_iff_iff]; simp only [decide_eq_true_eq]; (repeat' split) <;> omega
theorem ticks_ok (a d b n : Nat) (hd : d < 18446744073709551616) (hb0 : b < 18446744073709551616) (ha : a < 18446744073709551616) (hn : n < 2 ^ 128) : AFn Tryz.prog 34 [crv a d b, num n] (Ret (u64 (tickV a d b n))) := by
  have hs := serV_lt a d b d hd
  have hz := num_zero n hn
  obtain ⟨K, hK⟩ : ∃ K, K = serV a d b d := ⟨_, rfl⟩
  obtain ⟨o, ho⟩ : ∃ o, o = ofV a d b := ⟨_, rfl⟩
  have hsv := service_ok a d b d hd
  have hrt := right_ok a d b
  have htv : tickV a d b n = if o = 0 then 9223372036854775808 else if n = 0 then 0 else if n ≤ K then behV n a else overV (n - K) b d := by rw [hK, ho]; rfl
  have hk0 : o = 0 → K = 0 := by intro h; rw [hK, serV, ← ho, if_pos h]
  rw [← hK] at hsv hs
  rw [← ho] at hrt
  rw [htv]
  have ob := ofV_bounds (a := a) (d := d) (b := b)
  rw [← ho] at ob
  refine AFn_hxk 0 cx_ok 200 Tryz.func34 rfl Tryz.ntmps34 Tryz.results34 rfl fun base w hb => ?_
  simp only [go_sem, Nat.reduceAdd, Nat.reduceSub, Nat.reduceMul, Nat.reduceBEq, Nat.reduceLT, Nat.reduceLeDiff, Nat.reduceEqDiff, Int.reduceToNat, Int.reduceLE, Int.reduceLT, Int.reduceAdd, Int.reduceSub, Int.reduceNeg, Int.reduceBEq, Int.reduceBNe, Nat.reduceBNe, Nat.reduceDiv, Nat.reduceMod]
  refine kont_call hb fn66 rfl ?_ hsv (Ret.flat rfl) rfl fun d h hR => ?_
  · simp only [go_sem, Nat.reduceAdd, Nat.reduceSub, Nat.reduceMul, Nat.reduceBEq, Nat.reduceLT, Nat.reduceLeDiff, Nat.reduceEqDiff, Int.reduceToNat, Int.reduceLE, Int.reduceLT, Int.reduceAdd, Int.reduceSub, Int.reduceNeg, Int.reduceBEq, Int.reduceBNe, Nat.reduceBNe, Nat.reduceDiv, Nat.reduceMod]
  obtain ⟨rfl, rfl⟩ := hR
  refine kont_of_hx cx_ok hb 200 ?_
  simp only [go_sem, Nat.reduceAdd, Nat.reduceSub, Nat.reduceMul, Nat.reduceBEq, Nat.reduceLT, Nat.reduceLeDiff, Nat.reduceEqDiff, Int.reduceToNat, Int.reduceLE, Int.reduceLT, Int.reduceAdd, Int.reduceSub, Int.reduceNeg, Int.reduceBEq, Int.reduceBNe, Nat.reduceBNe, Nat.reduceDiv, Nat.reduceMod]
  simp only [hz, go_sem, Nat.reduceAdd, Nat.reduceSub, Nat.reduceMul, Nat.reduceBEq, Nat.reduceLT, Nat.reduceLeDiff, Nat.reduceEqDiff, Int.reduceToNat, Int.reduceLE, Int.reduceLT, Int.reduceAdd, Int.reduceSub, Int.reduceNeg, Int.reduceBEq, Int.reduceBNe, Nat.reduceBNe, Nat.reduceDiv, Nat.reduceMod]
  by_cases h0 : n = 0
  · simp only [go_sem, Nat.reduceAdd, Nat.reduceSub, Nat.reduceMul, Nat.reduceBEq, Nat.reduceLT, Nat.reduceLeDiff, Nat.reduceEqDiff, Int.reduceToNat, Int.reduceLE, Int.reduceLT, Int.reduceAdd, Int.reduceSub, Int.reduceNeg, Int.reduceBEq, Int.reduceBNe, Nat.reduceBNe, Nat.reduceDiv, Nat.reduceMod, decide_eq_true h0]
    refine kont_call hb fn40 rfl ?_ hrt (Ret.flat rfl) rfl fun d h hR => ?_
    · simp only [go_sem, Nat.reduceAdd, Nat.reduceSub, Nat.reduceMul, Nat.reduceBEq, Nat.reduceLT, Nat.reduceLeDiff, Nat.reduceEqDiff, Int.reduceToNat, Int.reduceLE, Int.reduceLT, Int.reduceAdd, Int.reduceSub, Int.reduceNeg, Int.reduceBEq, Int.reduceBNe, Nat.reduceBNe, Nat.reduceDiv, Nat.reduceMod]
    obtain ⟨rfl, rfl⟩ := hR
    refine kont_of_hx cx_ok hb 200 ?_
    simp only [go_sem, Nat.reduceAdd, Nat.reduceSub, Nat.reduceMul, Nat.reduceBEq, Nat.reduceLT, Nat.reduceLeDiff, Nat.reduceEqDiff, Int.reduceToNat, Int.reduceLE, Int.reduceLT, Int.reduceAdd, Int.reduceSub, Int.reduceNeg, Int.reduceBEq, Int.reduceBNe, Nat.reduceBNe, Nat.reduceDiv, Nat.reduceMod]
    by_cases h1 : o = 0
    · simp only [go_sem, Nat.reduceAdd, Nat.reduceSub, Nat.reduceMul, Nat.reduceBEq, Nat.reduceLT, Nat.reduceLeDiff, Nat.reduceEqDiff, Int.reduceToNat, Int.reduceLE, Int.reduceLT, Int.reduceAdd, Int.reduceSub, Int.reduceNeg, Int.reduceBEq, Int.reduceBNe, Nat.reduceBNe, Nat.reduceDiv, Nat.reduceMod, beqT h1, bne, h1]
      rfl
    · simp only [go_sem, Nat.reduceAdd, Nat.reduceSub, Nat.reduceMul, Nat.reduceBEq, Nat.reduceLT, Nat.reduceLeDiff, Nat.reduceEqDiff, Int.reduceToNat, Int.reduceLE, Int.reduceLT, Int.reduceAdd, Int.reduceSub, Int.reduceNeg, Int.reduceBEq, Int.reduceBNe, Nat.reduceBNe, Nat.reduceDiv, Nat.reduceMod, beqF h1, bne, if_neg h1, if_pos h0]
  · simp only [go_sem, Nat.reduceAdd, Nat.reduceSub, Nat.reduceMul, Nat.reduceBEq, Nat.reduceLT, Nat.reduceLeDiff, Nat.reduceEqDiff, Int.reduceToNat, Int.reduceLE, Int.reduceLT, Int.reduceAdd, Int.reduceSub, Int.reduceNeg, Int.reduceBEq, Int.reduceBNe, Nat.reduceBNe, Nat.reduceDiv, Nat.reduceMod, decide_eq_false h0, if_neg h0]
    refine kont_call hb fn67 rfl ?_ (cmp_ok n K hn (by omega)) (Ret.flat rfl) rfl fun d h hR => ?_
    · simp only [go_sem, Nat.reduceAdd, Nat.reduceSub, Nat.reduceMul, Nat.reduceBEq, Nat.reduceLT, Nat.reduceLeDiff, Nat.reduceEqDiff, Int.reduceToNat, Int.reduceLE, Int.reduceLT, Int.reduceAdd, Int.reduceSub, Int.reduceNeg, Int.reduceBEq, Int.reduceBNe, Nat.reduceBNe, Nat.reduceDiv, Nat.reduceMod, cmp_le]
    obtain ⟨rfl, rfl⟩ := hR
    refine kont_of_hx cx_ok hb 200 ?_
    simp only [go_sem, Nat.reduceAdd, Nat.reduceSub, Nat.reduceMul, Nat.reduceBEq, Nat.reduceLT, Nat.reduceLeDiff, Nat.reduceEqDiff, Int.reduceToNat, Int.reduceLE, Int.reduceLT, Int.reduceAdd, Int.reduceSub, Int.reduceNeg, Int.reduceBEq, Int.reduceBNe, Nat.reduceBNe, Nat.reduceDiv, Nat.reduceMod, cmp_le]
    by_cases h1 : n ≤ K
    · have h2 : o ≠ 0 := fun h => by have := hk0 h; omega
      simp only [go_sem, Nat.reduceAdd, Nat.reduceSub, Nat.reduceMul, Nat.reduceBEq, Nat.reduceLT, Nat.reduceLeDiff, Nat.reduceEqDiff, Int.reduceToNat, Int.reduceLE, Int.reduceLT, Int.reduceAdd, Int.reduceSub, Int.reduceNeg, Int.reduceBEq, Int.reduceBNe, Nat.reduceBNe, Nat.reduceDiv, Nat.reduceMod, decide_eq_true h1, if_neg h2, if_pos h1]
      refine kont_call hb fn68 rfl ?_ (behind_ok n a hn ha) (Ret.flat rfl) rfl fun d h hR => ?_
      · simp only [go_sem, Nat.reduceAdd, Nat.reduceSub, Nat.reduceMul, Nat.reduceBEq, Nat.reduceLT, Nat.reduceLeDiff, Nat.reduceEqDiff, Int.reduceToNat, Int.reduceLE, Int.reduceLT, Int.reduceAdd, Int.reduceSub, Int.reduceNeg, Int.reduceBEq, Int.reduceBNe, Nat.reduceBNe, Nat.reduceDiv, Nat.reduceMod]
      obtain ⟨rfl, rfl⟩ := hR
      refine kont_of_hx cx_ok hb 200 ?_
      simp only [go_sem, Nat.reduceAdd, Nat.reduceSub, Nat.reduceMul, Nat.reduceBEq, Nat.reduceLT, Nat.reduceLeDiff, Nat.reduceEqDiff, Int.reduceToNat, Int.reduceLE, Int.reduceLT, Int.reduceAdd, Int.reduceSub, Int.reduceNeg, Int.reduceBEq, Int.reduceBNe, Nat.reduceBNe, Nat.reduceDiv, Nat.reduceMod]
    · simp only [go_sem, Nat.reduceAdd, Nat.reduceSub, Nat.reduceMul, Nat.reduceBEq, Nat.reduceLT, Nat.reduceLeDiff, Nat.reduceEqDiff, Int.reduceToNat, Int.reduceLE, Int.reduceLT, Int.reduceAdd, Int.reduceSub, Int.reduceNeg, Int.reduceBEq, Int.reduceBNe, Nat.reduceBNe, Nat.reduceDiv, Nat.reduceMod, decide_eq_false h1, if_neg h1]
      by_cases h2 : b = 0
      · have e : (if o = 0 then 9223372036854775808 else overV (n - K) b d) = 9223372036854775808 := by split <;> simp [overV, h2]
        have hb2 : (((b : Nat) : Int) == 0) = true := by simp [h2]
        simp only [go_sem, Nat.reduceAdd, Nat.reduceSub, Nat.reduceMul, Nat.reduceBEq, Nat.reduceLT, Nat.reduceLeDiff, Nat.reduceEqDiff, Int.reduceToNat, Int.reduceLE, Int.reduceLT, Int.reduceAdd, Int.reduceSub, Int.reduceNeg, Int.reduceBEq, Int.reduceBNe, Nat.reduceBNe, Nat.reduceDiv, Nat.reduceMod, hb2, Go.undef, e]
        rfl
      · have hb2 : (((b : Nat) : Int) == 0) = false := by simp [h2]
        simp only [go_sem, Nat.reduceAdd, Nat.reduceSub, Nat.reduceMul, Nat.reduceBEq, Nat.reduceLT, Nat.reduceLeDiff, Nat.reduceEqDiff, Int.reduceToNat, Int.reduceLE, Int.reduceLT, Int.reduceAdd, Int.reduceSub, Int.reduceNeg, Int.reduceBEq, Int.reduceBNe, Nat.reduceBNe, Nat.reduceDiv, Nat.reduceMod, hb2, Go.undef]
        refine kont_call hb fn40 rfl ?_ hrt (Ret.flat rfl) rfl fun d h hR => ?_
        · simp only [go_sem, Nat.reduceAdd, Nat.reduceSub, Nat.reduceMul, Nat.reduceBEq, Nat.reduceLT, Nat.reduceLeDiff, Nat.reduceEqDiff, Int.reduceToNat, Int.reduceLE, Int.reduceLT, Int.reduceAdd, Int.reduceSub, Int.reduceNeg, Int.reduceBEq, Int.reduceBNe, Nat.reduceBNe, Nat.reduceDiv, Nat.reduceMod]
        obtain ⟨rfl, rfl⟩ := hR
        refine kont_of_hx cx_ok hb 200 ?_
        simp only [go_sem, Nat.reduceAdd, Nat.reduceSub, Nat.reduceMul, Nat.reduceBEq, Nat.reduceLT, Nat.reduceLeDiff, Nat.reduceEqDiff, Int.reduceToNat, Int.reduceLE, Int.reduceLT, Int.reduceAdd, Int.reduceSub, Int.reduceNeg, Int.reduceBEq, Int.reduceBNe, Nat.reduceBNe, Nat.reduceDiv, Nat.reduceMod]
        by_cases h3 : o = 0
        · simp only [go_sem, Nat.reduceAdd, Nat.reduceSub, Nat.reduceMul, Nat.reduceBEq, Nat.reduceLT, Nat.reduceLeDiff, Nat.reduceEqDiff, Int.reduceToNat, Int.reduceLE, Int.reduceLT, Int.reduceAdd, Int.reduceSub, Int.reduceNeg, Int.reduceBEq, Int.reduceBNe, Nat.reduceBNe, Nat.reduceDiv, Nat.reduceMod, beqT h3, bne, if_pos h3]
          rfl
        · simp only [go_sem, Nat.reduceAdd, Nat.reduceSub, Nat.reduceMul, Nat.reduceBEq, Nat.reduceLT, Nat.reduceLeDiff, Nat.reduceEqDiff, Int.reduceToNat, Int.reduceLE, Int.reduceLT, Int.reduceAdd, Int.reduceSub, Int.reduceNeg, Int.reduceBEq, Int.reduceBNe, Nat.reduceBNe, Nat.reduceDiv, Nat.reduceMod, beqF h3, bne, if_neg h3]
          have obb := ob h3
          have hsub : AFn Tryz.prog 69 [num n, num K] (Ret (.tup [num (n - K), dbool false])) := by
            have := sub_ok n K hn (by omega)
            rwa [show (n + 2 ^ 128 - K) % 2 ^ 128 = n - K by omega, decide_eq_false (by omega : ¬ n < K)] at this
          refine kont_call hb fn69 rfl ?_ hsub (Ret.flat rfl) rfl fun d h hR => ?_
          · simp only [go_sem, Nat.reduceAdd, Nat.reduceSub, Nat.reduceMul, Nat.reduceBEq, Nat.reduceLT, Nat.reduceLeDiff, Nat.reduceEqDiff, Int.reduceToNat, Int.reduceLE, Int.reduceLT, Int.reduceAdd, Int.reduceSub, Int.reduceNeg, Int.reduceBEq, Int.reduceBNe, Nat.reduceBNe, Nat.reduceDiv, Nat.reduceMod]
          obtain ⟨rfl, rfl⟩ := hR
          refine kont_of_hx cx_ok hb 200 ?_
          simp only [go_sem, Nat.reduceAdd, Nat.reduceSub, Nat.reduceMul, Nat.reduceBEq, Nat.reduceLT, Nat.reduceLeDiff, Nat.reduceEqDiff, Int.reduceToNat, Int.reduceLE, Int.reduceLT, Int.reduceAdd, Int.reduceSub, Int.reduceNeg, Int.reduceBEq, Int.reduceBNe, Nat.reduceBNe, Nat.reduceDiv, Nat.reduceMod]
          have hbl := behV_le (n - K) b
          have hw := wu_add' d (behV (n - K) b) (by omega)
          refine kont_hax cx_ok hb 200 mixed [(0, true), (1, true), (2, true), (3, true), (4, true), (5, false), (6, true), (7, true), (8, true)] (by kernel_rfl) (by kernel_rfl) ?_
          simp only [go_sem, Nat.reduceAdd, Nat.reduceSub, Nat.reduceMul, Nat.reduceBEq, Nat.reduceLT, Nat.reduceLeDiff, Nat.reduceEqDiff, Int.reduceToNat, Int.reduceLE, Int.reduceLT, Int.reduceAdd, Int.reduceSub, Int.reduceNeg, Int.reduceBEq, Int.reduceBNe, Nat.reduceBNe, Nat.reduceDiv, Nat.reduceMod]
          refine AX_call hb fn68 rfl ?_ (behind_ok (n - K) b (by omega) hb0) (Ret.flat rfl) rfl fun d h hR => ?_
          · simp only [go_sem, Nat.reduceAdd, Nat.reduceSub, Nat.reduceMul, Nat.reduceBEq, Nat.reduceLT, Nat.reduceLeDiff, Nat.reduceEqDiff, Int.reduceToNat, Int.reduceLE, Int.reduceLT, Int.reduceAdd, Int.reduceSub, Int.reduceNeg, Int.reduceBEq, Int.reduceBNe, Nat.reduceBNe, Nat.reduceDiv, Nat.reduceMod, hw]
          obtain ⟨rfl, rfl⟩ := hR
          refine AX_of_hax cx_ok hb ?_
          simp only [go_sem, Nat.reduceAdd, Nat.reduceSub, Nat.reduceMul, Nat.reduceBEq, Nat.reduceLT, Nat.reduceLeDiff, Nat.reduceEqDiff, Int.reduceToNat, Int.reduceLE, Int.reduceLT, Int.reduceAdd, Int.reduceSub, Int.reduceNeg, Int.reduceBEq, Int.reduceBNe, Nat.reduceBNe, Nat.reduceDiv, Nat.reduceMod, hw]
          congr 2
          unfold overV behV
          rw [if_neg h2, if_neg h2]
          omega
end Go.Fg.X
namespace Go.Fg.X
open Go.Proofs Go.Fg
set_option maxRecDepth 100000
set_option maxHeartbeats 4000000
set_option linter.unusedSimpArgs false
set_option linter.unusedVariables false
@[go_sem] def cfg (t l : Int) : D := .agg [.raw (.int .i64 t), .raw (.int .i64 l)]
/-- May a link be? -/
def mayL (T L : Int) : Bool := decide (1 ≤ T ∧ T ≤ 65536 ∧ 1 ≤ L ∧ L ≤ 16384)
def delV (T L : Int) (a d b q : Nat) : Nat := togV (tickV a d b (q * 65536)) (T.toNat * L.toNat)
theorem delay_ok (T L : Int) (a d b q : Nat) (ha : a < 18446744073709551616) (hd : d < 18446744073709551616) (hb0 : b < 18446744073709551616) (hq : q < 18446744073709551616) (hm : mayL T L = true) :
    AFn Tryz.prog 14 [cfg T L, crv a d b, u64 q] (Ret (.tup [u64 (delV T L a d b q), dint 0])) := by
  simp only [mayL, decide_eq_true_eq] at hm
  obtain ⟨t, rfl⟩ : ∃ t : Nat, T = (t : Int) := ⟨T.toNat, by omega⟩
  obtain ⟨u, rfl⟩ : ∃ t : Nat, L = (t : Int) := ⟨L.toNat, by omega⟩
  have w1 := wu_nat t (by omega)
  have w2 := wu_nat u (by omega)
  have htu : t * u ≤ 65536 * 16384 := Nat.mul_le_mul (by omega) (by omega)
  have w3 := wu_mul' t u (by omega)
  have e1 : decide ((t : Int) < 1) = false := decide_eq_false (by omega)
  have e2 : decide ((t : Int) > 65536) = false := decide_eq_false (by omega)
  have e3 : decide ((u : Int) < 1) = false := decide_eq_false (by omega)
  have e4 : decide ((u : Int) > 16384) = false := decide_eq_false (by omega)
  have htl := tickV_le a d b (q * 65536)
  have hdv : delV t u a d b q = togV (tickV a d b (q * 65536)) (t * u) := rfl
  rw [hdv]
  refine AFn_hxk 0 cx_ok 200 Tryz.func14 rfl Tryz.ntmps14 Tryz.results14 rfl fun base w hb => ?_
  simp only [go_sem, simprocAttr]
  simp only [e1, e2, e3, e4, go_sem, simprocAttr]
  refine kont_hax cx_ok hb 200 mixed [(0, true), (1, true), (4, true), (5, true), (6, true), (7, true), (8, true), (9, true), (10, true), (2, false), (3, false), (11, false), (12, true), (13, true)] (by kernel_rfl) (by kernel_rfl) ?_
  simp only [go_sem, simprocAttr, w1, w2, w3]
  refine AX_call hb fn35 rfl ?_ (mul_ok q 65536 hq (by decide)) (Ret.flat rfl) rfl fun d h hR => ?_
  · simp only [go_sem, simprocAttr, w1, w2, w3, c65w]
  obtain ⟨rfl, rfl⟩ := hR
  refine AX_of_hax cx_ok hb ?_
  simp only [go_sem, simprocAttr, w1, w2, w3, c65w]
  refine AX_call hb fn34 rfl ?_ (ticks_ok a d b (q * 65536) hd hb0 ha (by omega)) (Ret.flat rfl) rfl fun d h hR => ?_
  · simp only [go_sem, simprocAttr, w1, w2, w3]
  obtain ⟨rfl, rfl⟩ := hR
  refine AX_of_hax cx_ok hb ?_
  simp only [go_sem, simprocAttr, w1, w2, w3]
  refine AX_call hb fn33 rfl ?_ (together_ok (tickV a d b (q * 65536)) (t * u) (by omega) (by omega)) (Ret.flat rfl) rfl fun d h hR => ?_
  · simp only [go_sem, simprocAttr]
  obtain ⟨rfl, rfl⟩ := hR
  refine AX_of_hax cx_ok hb ?_
  simp only [go_sem, simprocAttr]
end Go.Fg.X
namespace Go.Fg.X
open Go.Proofs Go.Fg
set_option maxRecDepth 100000
set_option maxHeartbeats 4000000
set_option linter.unusedSimpArgs false
set_option linter.unusedVariables false
theorem atimes_ok (n t : Nat) (hn : n < 2 ^ 128) (ht : t ≤ 65536) (hnt : n * t < 2 ^ 128) : AFn Tryz.prog 75 [num n, dint t] (Ret (num (n * t))) := by
  obtain ⟨hi, lo, hlo, rfl⟩ : ∃ hi lo, lo < 18446744073709551616 ∧ n = hi * 18446744073709551616 + lo := ⟨n / 18446744073709551616, n % 18446744073709551616, Nat.mod_lt _ (by decide), by omega⟩
  have hh : hi < 18446744073709551616 := by omega
  have e1 : (hi * 18446744073709551616 + lo) / 18446744073709551616 = hi := by omega
  have e2 : (hi * 18446744073709551616 + lo) % 18446744073709551616 = lo := by omega
  obtain ⟨A, hA⟩ : ∃ A, A = lo * t := ⟨_, rfl⟩
  obtain ⟨B, hB⟩ : ∃ B, B = hi * t := ⟨_, rfl⟩
  have e3 : (hi * 18446744073709551616 + lo) * t = B * 18446744073709551616 + A := by rw [hA, hB, Nat.add_mul, Nat.mul_assoc, Nat.mul_comm 18446744073709551616 t, ← Nat.mul_assoc]
  rw [e3] at hnt
  rw [e3]
  have hm := mul_ok lo t hlo (by omega)
  rw [← hA] at hm
  have w1 := wu_nat t (by omega)
  have w2 := wu_mul' hi t (by rw [← hB]; omega)
  rw [← hB] at w2
  have w3 := wu_add' (A / 18446744073709551616) B (by omega)
  have r1 : (B * 18446744073709551616 + A) / 18446744073709551616 = A / 18446744073709551616 + B := by rw [Nat.add_comm, Nat.add_mul_div_right _ _ (by decide)]
  have r2 : (B * 18446744073709551616 + A) % 18446744073709551616 = A % 18446744073709551616 := by rw [Nat.add_comm, Nat.add_mul_mod_self_right]
  refine AFn_hxk 0 cx_ok 200 Tryz.func75 rfl Tryz.ntmps75 Tryz.results75 rfl fun base w hb => ?_
  simp only [go_sem, simprocAttr]
  simp only [e1, e2, w1, go_sem, simprocAttr]
  refine kont_call hb fn35 rfl ?_ hm (Ret.flat rfl) rfl fun d h hR => ?_
  · simp only [go_sem, simprocAttr, w1, w2, w3]
  obtain ⟨rfl, rfl⟩ := hR
  refine kont_of_hx cx_ok hb 200 ?_
  simp only [go_sem, simprocAttr, w1, w2, w3]
  simp only [e1, e2, w1, w2, w3, go_sem, simprocAttr, r1, r2]
theorem above_ok (n t k : Nat) (hn : n < 2 ^ 111) (ht : t ≤ 65536) (hk : k < 18446744073709551616) : AFn Tryz.prog 87 [num n, dint t, u64 k] (Ret (dbool (decide (65536 * k < n * t)))) := by
  have h1 : n * t ≤ n * 65536 := Nat.mul_le_mul_left n ht
  have hc := cmp_ok (n * t) (65536 * k) (by omega) (by omega)
  have e : decide ((if n * t < 65536 * k then (-1 : Int) else if n * t = 65536 * k then 0 else 1) > 0) = decide (65536 * k < n * t) := by
    rw [Bool.eq_iff_iff]; simp only [decide_eq_true_eq]; (repeat' split) <;> omega
  have hm := mul_ok 65536 k (by decide) hk
  refine AFn_hxk 0 cx_ok 200 Tryz.func87 rfl Tryz.ntmps87 Tryz.results87 rfl fun base w hb => ?_
  simp only [go_sem, simprocAttr]
  refine kont_call hb fn75 rfl ?_ (atimes_ok n t (by omega) ht (by omega)) (Ret.flat rfl) rfl fun d h hR => ?_
  · simp only [go_sem, simprocAttr]
  obtain ⟨rfl, rfl⟩ := hR
  refine kont_of_hx cx_ok hb 200 ?_
  simp only [go_sem, simprocAttr]
  refine kont_call hb fn35 rfl ?_ hm (Ret.flat rfl) rfl fun d h hR => ?_
  · simp only [go_sem, simprocAttr, c65w]
  obtain ⟨rfl, rfl⟩ := hR
  refine kont_of_hx cx_ok hb 200 ?_
  simp only [go_sem, simprocAttr, c65w]
  refine kont_call hb fn67 rfl ?_ hc (Ret.flat rfl) rfl fun d h hR => ?_
  · simp only [go_sem, simprocAttr, e]
  obtain ⟨rfl, rfl⟩ := hR
  refine kont_of_hx cx_ok hb 200 ?_
  simp only [go_sem, simprocAttr, e]
theorem rest_ok (n t k : Nat) (hn : n < 2 ^ 111) (ht : t ≤ 65536) (ht0 : 0 < t) (hk : k ≤ 1048576) (hk0 : 0 < k) (hle : n * t ≤ 65536 * k) : AFn Tryz.prog 55 [num n, dint t, u64 k] (Ret (u64 ((65536 * k - n * t) / (t * k)))) := by
  have h1 : n * t ≤ n * 65536 := Nat.mul_le_mul_left n ht
  obtain ⟨M, hM⟩ : ∃ M, M = n * t := ⟨_, rfl⟩
  have hti := atimes_ok n t (by omega) ht (by omega)
  rw [← hM] at hti hle ⊢
  have hs := sub_ok (65536 * k) M (by omega) (by omega)
  rw [show (65536 * k + 2 ^ 128 - M) % 2 ^ 128 = 65536 * k - M by omega] at hs
  have htk : t * k ≤ 65536 * 1048576 := Nat.mul_le_mul ht hk
  have htk0 : 0 < t * k := Nat.mul_pos ht0 hk0
  have w1 := wu_nat t (by omega)
  have w2 := wu_mul' t k (by omega)
  have hq : (65536 * k - M) / (t * k) < 18446744073709551616 := by
    have := Nat.div_le_self (65536 * k - M) (t * k); omega
  have hf := floorG_ok (65536 * k - M) (t * k) (by omega) (by omega) (by omega)
  rw [show narV ((65536 * k - M) / (t * k)) = (65536 * k - M) / (t * k) by rw [narV, if_pos hq]] at hf
  have hm := mul_ok 65536 k (by decide) (by omega)
  refine AFn_hxk 0 cx_ok 200 Tryz.func55 rfl Tryz.ntmps55 Tryz.results55 rfl fun base w hb => ?_
  simp only [go_sem, simprocAttr]
  refine kont_hax cx_ok hb 200 mixed [(0, true), (2, true), (3, true), (1, false), (4, false), (5, false), (6, true), (7, true), (8, true), (9, false), (10, false), (11, true)] (by kernel_rfl) (by kernel_rfl) ?_
  simp only [go_sem, simprocAttr, w1, w2]
  refine AX_call hb fn35 rfl ?_ hm (Ret.flat rfl) rfl fun d h hR => ?_
  · simp only [go_sem, simprocAttr, c65w]
  obtain ⟨rfl, rfl⟩ := hR
  refine AX_of_hax cx_ok hb ?_
  simp only [go_sem, simprocAttr, c65w]
  refine AX_call hb fn75 rfl ?_ hti (Ret.flat rfl) rfl fun d h hR => ?_
  · simp only [go_sem, simprocAttr]
  obtain ⟨rfl, rfl⟩ := hR
  refine AX_of_hax cx_ok hb ?_
  simp only [go_sem, simprocAttr]
  refine AX_call hb fn69 rfl ?_ hs (Ret.flat rfl) rfl fun d h hR => ?_
  · simp only [go_sem, simprocAttr, w1, w2]
  obtain ⟨rfl, rfl⟩ := hR
  refine AX_of_hax cx_ok hb ?_
  simp only [go_sem, simprocAttr, w1, w2]
  refine kont_call hb fn76 rfl ?_ hf (Ret.flat rfl) rfl fun d h hR => ?_
  · simp only [go_sem, simprocAttr]
  obtain ⟨rfl, rfl⟩ := hR
  refine kont_of_hx cx_ok hb 200 ?_
  simp only [go_sem, simprocAttr]
end Go.Fg.X
namespace Go.Fg.X
open Go.Proofs Go.Fg
set_option maxRecDepth 100000
set_option maxHeartbeats 4000000
set_option linter.unusedSimpArgs false
set_option linter.unusedVariables false
@[go_sem] def dcv (c : Cv) : D := .agg c.cells
@[go_sem] def dkl (c : Kls) : D := .agg c.cells
/-- What a curve is: 0 bad, 1 none, 2 linear, 3 concave, 4 convex. -/
def ofI (c : Cv) : Int := if c.m1 = 0 ∧ c.d = 0 ∧ c.m2 = 0 then 1 else if 4294967295 < c.m1 ∨ 4294967295 < c.m2 ∨ 1048576 < c.d then 0 else if c.d = 0 ∧ c.m1 = c.m2 then 2 else if 0 < c.d ∧ c.m2 < c.m1 then 3 else if 0 < c.d ∧ c.m1 = 0 ∧ 0 < c.m2 then 4 else 0
theorem ofcI_ok (c : Cv) : AFn Tryz.prog 41 [dcv c] (Ret (dint (ofI c))) := by
  refine AFn_hxk 0 cx_ok 200 Tryz.func41 rfl Tryz.ntmps41 Tryz.results41 rfl fun base w hb => ?_
  simp only [go_sem, simprocAttr]
  repeat' (first | ((first | refine hite_dec (fun h => ?_) (fun h => ?_) | refine hite_beq (fun h => ?_) (fun h => ?_) | refine hite_bne (fun h => ?_) (fun h => ?_) | refine hite_intro (fun h => ?_) (fun h => ?_) | refine hite_decA (fun h => ?_) (fun h => ?_) | refine hite_beqA (fun h => ?_) (fun h => ?_) | refine hite_bneA (fun h => ?_) (fun h => ?_) | refine hite_intro' (fun h => ?_) (fun h => ?_)) <;> (try simp only [go_sem, simprocAttr])) | (refine And.intro (by omega) ?_; try simp only [go_sem, simprocAttr]))
  all_goals (congr 2; (try simp only [Bool.and_eq_false_iff, beq_eq_false_iff_ne, Bool.and_eq_true, beq_iff_eq, ne_eq] at *); unfold ofI; (repeat' split) <;> omega)
theorem rofcI_ok (c : Cv) (h1 : 0 ≤ c.m1) (h2 : 0 ≤ c.d) (h3 : 0 ≤ c.m2) : AFn Tryz.prog 26 [dcv c] (Ret (dint (ofI c))) := by
  refine AFn_hxk 0 cx_ok 200 Tryz.func26 rfl Tryz.ntmps26 Tryz.results26 rfl fun base w hb => ?_
  simp only [go_sem, simprocAttr]
  repeat' (first | ((first | refine hite_dec (fun h => ?_) (fun h => ?_) | refine hite_beq (fun h => ?_) (fun h => ?_) | refine hite_bne (fun h => ?_) (fun h => ?_) | refine hite_intro (fun h => ?_) (fun h => ?_) | refine hite_decA (fun h => ?_) (fun h => ?_) | refine hite_beqA (fun h => ?_) (fun h => ?_) | refine hite_bneA (fun h => ?_) (fun h => ?_) | refine hite_intro' (fun h => ?_) (fun h => ?_)) <;> (try simp only [go_sem, simprocAttr])) | (refine And.intro (by omega) ?_; try simp only [go_sem, simprocAttr]))
  all_goals (congr 2; unfold ofI; (repeat' split) <;> omega)
theorem crightI_ok (c : Cv) : AFn Tryz.prog 40 [dcv c] (Ret (dbool (ofI c != 0))) := by
  refine AFn_hxk 0 cx_ok 200 Tryz.func40 rfl Tryz.ntmps40 Tryz.results40 rfl fun base w hb => ?_
  simp only [go_sem, simprocAttr]
  refine kont_call hb fn41 rfl ?_ (ofcI_ok c) (Ret.flat rfl) rfl fun d h hR => ?_
  · simp only [go_sem, simprocAttr]
  obtain ⟨rfl, rfl⟩ := hR
  refine kont_of_hx cx_ok hb 200 ?_
  simp only [go_sem, simprocAttr]
theorem shas_ok (c : Cv) : AFn Tryz.prog 44 [dcv c] (Ret (dbool (decide (1 < ofI c)))) := by
  refine AFn_hxk 0 cx_ok 200 Tryz.func44 rfl Tryz.ntmps44 Tryz.results44 rfl fun base w hb => ?_
  simp only [go_sem, simprocAttr]
  refine kont_call hb fn41 rfl ?_ (ofcI_ok c) (Ret.flat rfl) rfl fun d h hR => ?_
  · simp only [go_sem, simprocAttr]
  obtain ⟨rfl, rfl⟩ := hR
  refine kont_of_hx cx_ok hb 200 ?_
  simp only [go_sem, simprocAttr]
theorem sreal_ok (c : Kls) : AFn Tryz.prog 42 [dkl c] (Ret (dbool (decide (1 < ofI c.rt)))) := by
  refine AFn_hxk 0 cx_ok 200 Tryz.func42 rfl Tryz.ntmps42 Tryz.results42 rfl fun base w hb => ?_
  simp only [go_sem, simprocAttr]
  refine kont_call hb fn44 rfl ?_ (shas_ok c.rt) (Ret.flat rfl) rfl fun d h hR => ?_
  · simp only [go_sem, simprocAttr]
  obtain ⟨rfl, rfl⟩ := hR
  refine kont_of_hx cx_ok hb 200 ?_
  simp only [go_sem, simprocAttr]
theorem sshares_ok (c : Kls) : AFn Tryz.prog 17 [dkl c] (Ret (dbool (decide (1 < ofI c.ls)))) := by
  refine AFn_hxk 0 cx_ok 200 Tryz.func17 rfl Tryz.ntmps17 Tryz.results17 rfl fun base w hb => ?_
  simp only [go_sem, simprocAttr]
  refine kont_call hb fn44 rfl ?_ (shas_ok c.ls) (Ret.flat rfl) rfl fun d h hR => ?_
  · simp only [go_sem, simprocAttr]
  obtain ⟨rfl, rfl⟩ := hR
  refine kont_of_hx cx_ok hb 200 ?_
  simp only [go_sem, simprocAttr]
theorem scapped_ok (c : Kls) : AFn Tryz.prog 43 [dkl c] (Ret (dbool (decide (1 < ofI c.ul)))) := by
  refine AFn_hxk 0 cx_ok 200 Tryz.func43 rfl Tryz.ntmps43 Tryz.results43 rfl fun base w hb => ?_
  simp only [go_sem, simprocAttr]
  refine kont_call hb fn44 rfl ?_ (shas_ok c.ul) (Ret.flat rfl) rfl fun d h hR => ?_
  · simp only [go_sem, simprocAttr]
  obtain ⟨rfl, rfl⟩ := hR
  refine kont_of_hx cx_ok hb 200 ?_
  simp only [go_sem, simprocAttr]
def frI (n a b : Int) : Bool := decide (a ≤ n) && decide (n ≤ b)
theorem sfrom_ok (n a b : Int) : AFn Tryz.prog 39 [dint n, dint a, dint b] (Ret (dbool (frI n a b))) := by
  refine AFn_hxk 0 cx_ok 200 Tryz.func39 rfl Tryz.ntmps39 Tryz.results39 rfl fun base w hb => ?_
  simp only [go_sem, simprocAttr]
  unfold frI
  by_cases h : a ≤ n
  · simp only [go_sem, simprocAttr, h]
  · simp only [go_sem, simprocAttr, h]
end Go.Fg.X
namespace Go.Fg.X
open Go.Proofs Go.Fg
set_option maxRecDepth 100000
set_option maxHeartbeats 4000000
set_option linter.unusedSimpArgs false
set_option linter.unusedVariables false
def idOk (c : Kls) : Bool := frI c.iD 1 65536 && frI c.parent 0 65536 && !(c.parent == c.iD)
def cvOk (c : Kls) : Bool := (ofI c.rt != 0) && ((ofI c.ls != 0) && !(ofI c.ls == 4)) && ((ofI c.ul != 0) && !(ofI c.ul == 4))
def leafOk (c : Kls) : Bool := frI c.pkts 1 64 && frI c.bytes 1 1048576 && (decide (1 < ofI c.rt) || decide (1 < ofI c.ls))
def innerOk (c : Kls) : Bool := c.pkts == 0 && c.bytes == 0 && !decide (1 < ofI c.rt)
/-- What is wrong with a class: an error's number. -/
def rightV (c : Kls) : Int := if !idOk c then 1 else if !cvOk c then 21 else if (c.leaf && !leafOk c) || (!c.leaf && !innerOk c) || (decide (1 < ofI c.ul) && !decide (1 < ofI c.ls)) then 29 else 0
structure RInv (c : Kls) (k : Nat) (s : St) : Prop where
  h0 : 0 < k → ofI c.rt ≠ 0
  h1 : 1 < k → ofI c.ls ≠ 0 ∧ ofI c.ls ≠ 4
  h2 : 2 < k → ofI c.ul ≠ 0 ∧ ofI c.ul ≠ 4
  eq : s = ⟨[(1, .ptr 0 0 0 0), (2, dint 0), (30, .agg (c.rt.cells ++ (c.ls.cells ++ c.ul.cells))), (31, dint k)], [⟨.one, 0, 14, 1, fun _ => c.cells⟩]⟩
theorem sright_ok (c : Kls) : AFn Tryz.prog 16 [dkl c] (Ret (dint (rightV c))) := by
  refine AFn_hxk 0 cx_ok 200 Tryz.func16 rfl Tryz.ntmps16 Tryz.results16 rfl fun base w hb => ?_
  simp only [go_sem, simprocAttr]
  refine kont_call hb fn39 rfl ?_ (sfrom_ok c.iD 1 65536) (Ret.flat rfl) rfl fun d h hR => ?_
  · simp only [go_sem, simprocAttr]
  obtain ⟨rfl, rfl⟩ := hR
  refine kont_of_hx cx_ok hb 200 ?_
  simp only [go_sem, simprocAttr]
  cases hb1 : frI c.iD 1 65536
  · have : rightV c = 1 := by simp [rightV, idOk, hb1]
    simp only [go_sem, simprocAttr, this]
  · simp only [go_sem, simprocAttr]
    refine kont_call hb fn39 rfl ?_ (sfrom_ok c.parent 0 65536) (Ret.flat rfl) rfl fun d h hR => ?_
    · simp only [go_sem, simprocAttr]
    obtain ⟨rfl, rfl⟩ := hR
    refine kont_of_hx cx_ok hb 200 ?_
    simp only [go_sem, simprocAttr]
    cases hb2 : frI c.parent 0 65536
    · have : rightV c = 1 := by simp [rightV, idOk, hb1, hb2]
      simp only [go_sem, simprocAttr, this]
    · simp only [go_sem, simprocAttr]
      by_cases h3 : c.parent = c.iD
      · have : rightV c = 1 := by simp [rightV, idOk, hb1, hb2, h3]
        simp only [go_sem, simprocAttr, beqT h3, this]
      · simp only [go_sem, simprocAttr, beqF h3]
        have hid : idOk c = true := by simp [idOk, hb1, hb2, h3]
        have w1 : IntKind.i64.wrap 1 = 1 := by decide
        have w2 : IntKind.i64.wrap 2 = 2 := by decide
        have w3 : IntKind.i64.wrap 3 = 3 := by decide
        refine kont_for (RInv c) 3
          (s0 := ⟨[(1, .ptr 0 0 0 0), (2, dint 0), (30, .agg (c.rt.cells ++ (c.ls.cells ++ c.ul.cells))), (31, dint 0)], [⟨.one, 0, 14, 1, fun _ => c.cells⟩]⟩) (Weak.frame (by simp only [go_sem, simprocAttr])) ⟨by omega, by omega, by omega, rfl⟩ ?_
        rintro k s hk ⟨g0, g1, g2, rfl⟩
        obtain rfl | rfl | rfl | rfl : k = 0 ∨ k = 1 ∨ k = 2 ∨ k = 3 := by omega
        · refine kont_of_hx cx_ok hb 200 ?_
          simp only [go_sem, simprocAttr]
          refine kont_call hb fn40 rfl ?_ (crightI_ok c.rt) (Ret.flat rfl) rfl fun d h hR => ?_
          · simp only [go_sem, simprocAttr]
          obtain ⟨rfl, rfl⟩ := hR
          refine kont_of_hx cx_ok hb 200 ?_
          simp only [go_sem, simprocAttr]
          by_cases r0 : ofI c.rt = 0
          · have : rightV c = 21 := by simp [rightV, hid, cvOk, r0]
            simp only [go_sem, simprocAttr, beqT r0, bne, this, Go.undef]
          · simp only [go_sem, simprocAttr, beqF r0, bne, Go.undef]
            refine ⟨_, Weak.to 1 ⟨?_, by simp only [go_sem, simprocAttr], ?_, ?_⟩, ⟨fun _ => r0, by omega, by omega, rfl⟩⟩ <;> simp only [go_sem, simprocAttr, w1, w2, w3]
        · refine kont_of_hx cx_ok hb 200 ?_
          simp only [go_sem, simprocAttr]
          refine kont_call hb fn40 rfl ?_ (crightI_ok c.ls) (Ret.flat rfl) rfl fun d h hR => ?_
          · simp only [go_sem, simprocAttr]
          obtain ⟨rfl, rfl⟩ := hR
          refine kont_of_hx cx_ok hb 200 ?_
          simp only [go_sem, simprocAttr]
          by_cases r0 : ofI c.ls = 0
          · have : rightV c = 21 := by simp [rightV, hid, cvOk, r0]
            simp only [go_sem, simprocAttr, beqT r0, bne, this, Go.undef]
          · simp only [go_sem, simprocAttr, beqF r0, bne, Go.undef]
            refine kont_call hb fn41 rfl ?_ (ofcI_ok c.ls) (Ret.flat rfl) rfl fun d h hR => ?_
            · simp only [go_sem, simprocAttr]
            obtain ⟨rfl, rfl⟩ := hR
            refine kont_of_hx cx_ok hb 200 ?_
            simp only [go_sem, simprocAttr]
            by_cases r4 : ofI c.ls = 4
            · have : rightV c = 21 := by simp [rightV, hid, cvOk, r4]
              simp only [go_sem, simprocAttr, beqT r4, this, Go.undef]
            · simp only [go_sem, simprocAttr, beqF r4, Go.undef]
              refine ⟨_, Weak.to 1 ⟨?_, by simp only [go_sem, simprocAttr], ?_, ?_⟩, ⟨fun _ => g0 (by omega), fun _ => ⟨r0, r4⟩, by omega, rfl⟩⟩ <;> simp only [go_sem, simprocAttr, w1, w2, w3]
        · refine kont_of_hx cx_ok hb 200 ?_
          simp only [go_sem, simprocAttr]
          refine kont_call hb fn40 rfl ?_ (crightI_ok c.ul) (Ret.flat rfl) rfl fun d h hR => ?_
          · simp only [go_sem, simprocAttr]
          obtain ⟨rfl, rfl⟩ := hR
          refine kont_of_hx cx_ok hb 200 ?_
          simp only [go_sem, simprocAttr]
          by_cases r0 : ofI c.ul = 0
          · have : rightV c = 21 := by simp [rightV, hid, cvOk, r0]
            simp only [go_sem, simprocAttr, beqT r0, bne, this, Go.undef]
          · simp only [go_sem, simprocAttr, beqF r0, bne, Go.undef]
            refine kont_call hb fn41 rfl ?_ (ofcI_ok c.ul) (Ret.flat rfl) rfl fun d h hR => ?_
            · simp only [go_sem, simprocAttr]
            obtain ⟨rfl, rfl⟩ := hR
            refine kont_of_hx cx_ok hb 200 ?_
            simp only [go_sem, simprocAttr]
            by_cases r4 : ofI c.ul = 4
            · have : rightV c = 21 := by simp [rightV, hid, cvOk, r4]
              simp only [go_sem, simprocAttr, beqT r4, this, Go.undef]
            · simp only [go_sem, simprocAttr, beqF r4, Go.undef]
              refine ⟨_, Weak.to 1 ⟨?_, by simp only [go_sem, simprocAttr], ?_, ?_⟩, ⟨fun _ => g0 (by omega), fun _ => g1 (by omega), fun _ => ⟨r0, r4⟩, rfl⟩⟩ <;> simp only [go_sem, simprocAttr, w1, w2, w3]
        · have hcv : cvOk c = true := by
            have a := g0 (by omega); have b := g1 (by omega); have d := g2 (by omega)
            simp [cvOk, a, b, d]
          clear g0 g1 g2
          refine kont_of_hx cx_ok hb 200 ?_
          simp only [go_sem, simprocAttr]
          first | refine kont_seq ?_ | skip
          refine kont_joinF [1, 2] [(5, dbool (leafOk c))] rfl ?_ ?_
          · refine kont_of_hx cx_ok hb 200 ?_
            simp only [go_sem, simprocAttr]
            refine kont_call hb fn39 rfl ?_ (sfrom_ok c.pkts 1 64) (Ret.flat rfl) rfl fun d h hR => ?_
            · simp only [go_sem, simprocAttr]
            obtain ⟨rfl, rfl⟩ := hR
            refine kont_of_hx cx_ok hb 200 ?_
            simp only [go_sem, simprocAttr]
            cases hp : frI c.pkts 1 64
            · have e : leafOk c = false := by simp [leafOk, hp]
              simp only [go_sem, simprocAttr, Go.undef]
              exact Weak.to 1 (by (simp only [go_sem, simprocAttr, e]) <;> simp)
            · simp only [go_sem, simprocAttr, Go.undef]
              refine kont_call hb fn39 rfl ?_ (sfrom_ok c.bytes 1 1048576) (Ret.flat rfl) rfl fun d h hR => ?_
              · simp only [go_sem, simprocAttr]
              obtain ⟨rfl, rfl⟩ := hR
              refine kont_of_hx cx_ok hb 200 ?_
              simp only [go_sem, simprocAttr]
              cases hq : frI c.bytes 1 1048576
              · have e : leafOk c = false := by simp [leafOk, hp, hq]
                simp only [go_sem, simprocAttr, Go.undef]
                exact Weak.to 1 (by (simp only [go_sem, simprocAttr, e]) <;> simp)
              · simp only [go_sem, simprocAttr, Go.undef]
                refine kont_call hb fn42 rfl ?_ (sreal_ok c) (Ret.flat rfl) rfl fun d h hR => ?_
                · simp only [go_sem, simprocAttr]
                obtain ⟨rfl, rfl⟩ := hR
                refine kont_of_hx cx_ok hb 200 ?_
                simp only [go_sem, simprocAttr]
                cases hr : decide (1 < ofI c.rt)
                · simp only [go_sem, simprocAttr, Go.undef]
                  refine kont_call hb fn17 rfl ?_ (sshares_ok c) (Ret.flat rfl) rfl fun d h hR => ?_
                  · simp only [go_sem, simprocAttr]
                  obtain ⟨rfl, rfl⟩ := hR
                  refine kont_of_hx cx_ok hb 200 ?_
                  simp only [go_sem, simprocAttr]
                  have e : leafOk c = decide (1 < ofI c.ls) := by simp [leafOk, hp, hq, hr]
                  exact Weak.to 1 (by (simp only [go_sem, simprocAttr, e]) <;> simp)
                · have e : leafOk c = true := by simp [leafOk, hp, hq, hr]
                  simp only [go_sem, simprocAttr, Go.undef]
                  exact Weak.to 1 (by (simp only [go_sem, simprocAttr, e]) <;> simp)
          first | refine kont_seq ?_ | skip
          refine kont_joinF [1, 2, 5] [(6, dbool (innerOk c))] rfl ?_ ?_
          · refine kont_of_hx cx_ok hb 200 ?_
            simp only [go_sem, simprocAttr]
            by_cases hp : c.pkts = 0
            · simp only [go_sem, simprocAttr, beqT hp, Go.undef]
              by_cases hq : c.bytes = 0
              · simp only [go_sem, simprocAttr, beqT hq, Go.undef]
                refine kont_call hb fn42 rfl ?_ (sreal_ok c) (Ret.flat rfl) rfl fun d h hR => ?_
                · simp only [go_sem, simprocAttr]
                obtain ⟨rfl, rfl⟩ := hR
                refine kont_of_hx cx_ok hb 200 ?_
                simp only [go_sem, simprocAttr]
                have e : innerOk c = !decide (1 < ofI c.rt) := by simp [innerOk, hp, hq]
                exact Weak.to 1 (by (simp only [go_sem, simprocAttr, e]) <;> simp)
              · have e : innerOk c = false := by simp [innerOk, hp, hq]
                simp only [go_sem, simprocAttr, beqF hq, Go.undef]
                exact Weak.to 1 (by (simp only [go_sem, simprocAttr, e]) <;> simp)
            · have e : innerOk c = false := by simp [innerOk, hp]
              simp only [go_sem, simprocAttr, beqF hp, Go.undef]
              exact Weak.to 1 (by (simp only [go_sem, simprocAttr, e]) <;> simp)
          refine kont_of_hx cx_ok hb 200 ?_
          simp only [go_sem, simprocAttr]
          have hv : rightV c = if (c.leaf && !leafOk c) || (!c.leaf && !innerOk c) || (decide (1 < ofI c.ul) && !decide (1 < ofI c.ls)) then 29 else 0 := by simp [rightV, hid, hcv]
          generalize leafOk c = lo at hv ⊢
          generalize innerOk c = io at hv ⊢
          cases hl : c.leaf <;> rw [hl] at hv
          · cases io
            · simp at hv
              simp only [go_sem, simprocAttr, Go.undef, hv]
            · simp only [go_sem, simprocAttr, Go.undef]
              refine kont_call hb fn43 rfl ?_ (scapped_ok c) (Ret.flat rfl) rfl fun d h hR => ?_
              · simp only [go_sem, simprocAttr, hl]
              obtain ⟨rfl, rfl⟩ := hR
              refine kont_of_hx cx_ok hb 200 ?_
              simp only [go_sem, simprocAttr, hl]
              cases hu : decide (1 < ofI c.ul) <;> rw [hu] at hv
              · simp at hv
                simp only [go_sem, simprocAttr, Go.undef, hv]
              · simp only [go_sem, simprocAttr, Go.undef]
                refine kont_call hb fn17 rfl ?_ (sshares_ok c) (Ret.flat rfl) rfl fun d h hR => ?_
                · simp only [go_sem, simprocAttr, hl]
                obtain ⟨rfl, rfl⟩ := hR
                refine kont_of_hx cx_ok hb 200 ?_
                simp only [go_sem, simprocAttr, hl]
                cases hs : decide (1 < ofI c.ls) <;> rw [hs] at hv <;> simp at hv <;> simp only [go_sem, simprocAttr, Go.undef, hv]
          · cases lo
            · simp at hv
              simp only [go_sem, simprocAttr, Go.undef, hv]
            · simp only [go_sem, simprocAttr, Go.undef]
              refine kont_call hb fn43 rfl ?_ (scapped_ok c) (Ret.flat rfl) rfl fun d h hR => ?_
              · simp only [go_sem, simprocAttr, hl]
              obtain ⟨rfl, rfl⟩ := hR
              refine kont_of_hx cx_ok hb 200 ?_
              simp only [go_sem, simprocAttr, hl]
              cases hu : decide (1 < ofI c.ul) <;> rw [hu] at hv
              · simp at hv
                simp only [go_sem, simprocAttr, Go.undef, hv]
              · simp only [go_sem, simprocAttr, Go.undef]
                refine kont_call hb fn17 rfl ?_ (sshares_ok c) (Ret.flat rfl) rfl fun d h hR => ?_
                · simp only [go_sem, simprocAttr, hl]
                obtain ⟨rfl, rfl⟩ := hR
                refine kont_of_hx cx_ok hb 200 ?_
                simp only [go_sem, simprocAttr, hl]
                cases hs : decide (1 < ofI c.ls) <;> rw [hs] at hv <;> simp at hv <;> simp only [go_sem, simprocAttr, Go.undef, hv]
end Go.Fg.X
namespace Go.Fg.X
open Go.Proofs Go.Fg
set_option maxRecDepth 100000
set_option maxHeartbeats 4000000
set_option linter.unusedSimpArgs false
set_option linter.unusedVariables false
theorem ofI_range (c : Cv) : 0 ≤ ofI c ∧ ofI c ≤ 4 := by unfold ofI; (repeat' split) <;> omega
def wrongV (c : Kls) : Int := if c.iD < 1 ∨ 65536 < c.iD ∨ c.parent < 0 ∨ 65536 < c.parent ∨ c.iD = c.parent then 1
  else if ofI c.rt = 0 ∨ ofI c.ls = 0 ∨ ofI c.ul = 0 ∨ ofI c.ls = 4 ∨ ofI c.ul = 4 then 21
  else if 1 < ofI c.ul ∧ ofI c.ls = 1 then 29
  else if c.leaf = true then (if c.pkts < 1 ∨ 64 < c.pkts ∨ c.bytes < 1 ∨ 1048576 < c.bytes ∨ (ofI c.rt = 1 ∧ ofI c.ls = 1) then 29 else 0)
  else if c.pkts ≠ 0 ∨ c.bytes ≠ 0 ∨ ofI c.rt ≠ 1 then 29 else 0
def Cv.Nn (c : Cv) : Prop := 0 ≤ c.m1 ∧ 0 ≤ c.d ∧ 0 ≤ c.m2
def Kls.Nn (c : Kls) : Prop := c.rt.Nn ∧ c.ls.Nn ∧ c.ul.Nn
theorem wrong_ok (c : Kls) (hc : c.Nn) : AFn Tryz.prog 49 [dkl c] (Ret (dint (wrongV c))) := by
  refine AFn_hxk 0 cx_ok 200 Tryz.func49 rfl Tryz.ntmps49 Tryz.results49 rfl fun base w hb => ?_
  simp only [go_sem, simprocAttr]
  repeat' (first | ((first | refine hite_dec (fun h => ?_) (fun h => ?_) | refine hite_beq (fun h => ?_) (fun h => ?_) | refine hite_bne (fun h => ?_) (fun h => ?_) | refine hite_intro (fun h => ?_) (fun h => ?_) | refine hite_decA (fun h => ?_) (fun h => ?_) | refine hite_beqA (fun h => ?_) (fun h => ?_) | refine hite_bneA (fun h => ?_) (fun h => ?_) | refine hite_intro' (fun h => ?_) (fun h => ?_)) <;> (try simp only [go_sem, simprocAttr])) | (refine And.intro (by omega) ?_; try simp only [go_sem, simprocAttr]))
  all_goals first | (congr 2; unfold wrongV; (repeat' split) <;> first | omega | simp_all; done) | skip
  refine kont_call hb fn26 rfl ?_ (rofcI_ok c.rt hc.1.1 hc.1.2.1 hc.1.2.2) (Ret.flat rfl) rfl fun d h hR => ?_
  · simp only [go_sem, simprocAttr]
  obtain ⟨rfl, rfl⟩ := hR
  refine kont_of_hx cx_ok hb 200 ?_
  simp only [go_sem, simprocAttr]
  refine kont_call hb fn26 rfl ?_ (rofcI_ok c.ls hc.2.1.1 hc.2.1.2.1 hc.2.1.2.2) (Ret.flat rfl) rfl fun d h hR => ?_
  · simp only [go_sem, simprocAttr]
  obtain ⟨rfl, rfl⟩ := hR
  refine kont_of_hx cx_ok hb 200 ?_
  simp only [go_sem, simprocAttr]
  refine kont_call hb fn26 rfl ?_ (rofcI_ok c.ul hc.2.2.1 hc.2.2.2.1 hc.2.2.2.2) (Ret.flat rfl) rfl fun d h hR => ?_
  · simp only [go_sem, simprocAttr]
  obtain ⟨rfl, rfl⟩ := hR
  refine kont_of_hx cx_ok hb 200 ?_
  simp only [go_sem, simprocAttr]
  repeat' (first | ((first | refine hite_dec (fun h => ?_) (fun h => ?_) | refine hite_beq (fun h => ?_) (fun h => ?_) | refine hite_bne (fun h => ?_) (fun h => ?_) | refine hite_intro (fun h => ?_) (fun h => ?_) | refine hite_decA (fun h => ?_) (fun h => ?_) | refine hite_beqA (fun h => ?_) (fun h => ?_) | refine hite_bneA (fun h => ?_) (fun h => ?_) | refine hite_intro' (fun h => ?_) (fun h => ?_)) <;> (try simp only [go_sem, simprocAttr])) | (refine And.intro (by omega) ?_; try simp only [go_sem, simprocAttr]))
  all_goals first | (congr 2; unfold wrongV; (repeat' split) <;> first | omega | simp_all; done) | skip
theorem wrong_right (c : Kls) : wrongV c = rightV c := by
  have h1 := ofI_range c.rt
  have h2 := ofI_range c.ls
  have h3 := ofI_range c.ul
  unfold wrongV rightV idOk cvOk leafOk innerOk frI
  generalize ofI c.rt = a at *
  generalize ofI c.ls = b at *
  generalize ofI c.ul = d at *
  cases hl : c.leaf <;> simp only [Bool.and_eq_true, Bool.or_eq_true, Bool.not_eq_true', Bool.and_eq_false_iff, Bool.or_eq_false_iff, decide_eq_true_eq, decide_eq_false_iff_not, beq_iff_eq, beq_eq_false_iff_ne, bne_iff_ne, bne_eq_false_iff_eq, Bool.not_eq_false', ne_eq, reduceCtorEq, false_and, true_and, false_or, or_false, if_false, if_true] <;> (repeat' split) <;> omega
end Go.Fg.X
