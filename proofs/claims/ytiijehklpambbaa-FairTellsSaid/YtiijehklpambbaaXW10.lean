/- Walks of the functions that the statement reaches. No conditions: contracts and laws. -/
import Derived.Test.YtiijehklpambbaaXW9
namespace Go.Fg.X
open Go.Proofs Go.Fg
set_option maxRecDepth 100000
set_option maxHeartbeats 4000000
set_option linter.unusedSimpArgs false
set_option linter.unusedVariables false
theorem apartV_lt (m v n t : Nat) (h : rightF m v n t = true) : apartV m v n t < 2 ^ 127 := by
  unfold rightF at h
  simp only [Bool.and_eq_true, decide_eq_true_eq] at h
  have a1 := (SL_t h.1.1).2
  have a2 := (SL_t h.1.2).2
  have bX : v * 65536 * n ≤ 1099511627776 * 65536 * 4294967295 := Nat.mul_le_mul (Nat.mul_le_mul_right _ h.2.1) a2
  have bY : t * 65536 * m ≤ 1099511627776 * 65536 * 4294967295 := Nat.mul_le_mul (Nat.mul_le_mul_right _ h.2.2) a1
  unfold apartV
  split
  · exact Nat.lt_of_le_of_lt (Nat.le_trans (Nat.sub_le _ _) bY) (by decide)
  · exact Nat.lt_of_le_of_lt (Nat.le_trans (Nat.sub_le _ _) bX) (by decide)
theorem mostV_lt (m n k least : Nat) (lm : Int) (hk : lm.toNat = k) (h : mayF m n least lm = true) : mostV m n k least < 2 ^ 127 := by
  unfold mayF at h
  simp only [Bool.and_eq_true, decide_eq_true_eq] at h
  have a1 := (SL_t h.1.1.1).2
  have a2 := (SL_t h.1.1.2).2
  have a3 := (SL_t h.1.2).1
  have hc := cdiv_le (k * 65536) least a3
  have b0 : 2 * cdiv (k * 65536) least + 2 ≤ 2147483650 := by omega
  have b1 := Nat.mul_le_mul (Nat.mul_le_mul b0 a1) a2
  exact Nat.lt_of_le_of_lt b1 (by decide)
def isF (m v n t least : Nat) (lm : Int) : Bool := (rightF m v n t && mayF m n least lm) && decide (apartV m v n t ≤ mostV m n lm.toNat least)
theorem fair_ok (m v n t : Nat) (lm : Int) (least : Nat) (hm : m < 18446744073709551616) (hn : n < 18446744073709551616) (hv : v < 18446744073709551616) (ht : t < 18446744073709551616) (hl : least < 18446744073709551616) :
    AFn Try.prog 51 [got m v, got n t, dint lm, u64 least] (Ret (dbool (isF m v n t least lm))) := by
  refine AFn_hxk 0 cx_ok 200 Try.func51 rfl Try.ntmps51 Try.results51 rfl fun base w hb => ?_
  simp only [go_sem, Nat.reduceAdd, Nat.reduceSub, Nat.reduceMul, Nat.reduceBEq, Nat.reduceLT, Nat.reduceLeDiff, Nat.reduceEqDiff, Int.reduceToNat, Int.reduceLE, Int.reduceLT, Int.reduceAdd, Int.reduceSub, Int.reduceNeg, Int.reduceBEq, Int.reduceBNe, Nat.reduceBNe, Nat.reduceDiv, Nat.reduceMod]
  refine kont_call hb fn49 rfl ?_ (apart_ok m v n t hm hn hv ht) (Ret.flat rfl) rfl fun d h hR => ?_
  · simp only [go_sem, Nat.reduceAdd, Nat.reduceSub, Nat.reduceMul, Nat.reduceBEq, Nat.reduceLT, Nat.reduceLeDiff, Nat.reduceEqDiff, Int.reduceToNat, Int.reduceLE, Int.reduceLT, Int.reduceAdd, Int.reduceSub, Int.reduceNeg, Int.reduceBEq, Int.reduceBNe, Nat.reduceBNe, Nat.reduceDiv, Nat.reduceMod]
  obtain ⟨rfl, rfl⟩ := hR
  refine kont_of_hx cx_ok hb 200 ?_
  simp only [go_sem, Nat.reduceAdd, Nat.reduceSub, Nat.reduceMul, Nat.reduceBEq, Nat.reduceLT, Nat.reduceLeDiff, Nat.reduceEqDiff, Int.reduceToNat, Int.reduceLE, Int.reduceLT, Int.reduceAdd, Int.reduceSub, Int.reduceNeg, Int.reduceBEq, Int.reduceBNe, Nat.reduceBNe, Nat.reduceDiv, Nat.reduceMod]
  refine kont_call hb fn50 rfl ?_ (most_ok m v n t lm least hm hn hl) (Ret.flat rfl) rfl fun d h hR => ?_
  · simp only [go_sem, Nat.reduceAdd, Nat.reduceSub, Nat.reduceMul, Nat.reduceBEq, Nat.reduceLT, Nat.reduceLeDiff, Nat.reduceEqDiff, Int.reduceToNat, Int.reduceLE, Int.reduceLT, Int.reduceAdd, Int.reduceSub, Int.reduceNeg, Int.reduceBEq, Int.reduceBNe, Nat.reduceBNe, Nat.reduceDiv, Nat.reduceMod]
  obtain ⟨rfl, rfl⟩ := hR
  refine kont_of_hx cx_ok hb 200 ?_
  simp only [go_sem, Nat.reduceAdd, Nat.reduceSub, Nat.reduceMul, Nat.reduceBEq, Nat.reduceLT, Nat.reduceLeDiff, Nat.reduceEqDiff, Int.reduceToNat, Int.reduceLE, Int.reduceLT, Int.reduceAdd, Int.reduceSub, Int.reduceNeg, Int.reduceBEq, Int.reduceBNe, Nat.reduceBNe, Nat.reduceDiv, Nat.reduceMod]
  by_cases h1 : rightF m v n t = true
  · have e1 : ((if rightF m v n t = true then (0 : Int) else 1) == 0) = true := by rw [if_pos h1]; rfl
    by_cases h2 : mayF m n least lm = true
    · have e2 : ((if mayF m n least lm = true then (0 : Int) else 1) == 0) = true := by rw [if_pos h2]; rfl
      have g1 := apartV_lt m v n t h1
      have g2 := mostV_lt m n _ least lm rfl h2
      simp only [go_sem, Nat.reduceAdd, Nat.reduceSub, Nat.reduceMul, Nat.reduceBEq, Nat.reduceLT, Nat.reduceLeDiff, Nat.reduceEqDiff, Int.reduceToNat, Int.reduceLE, Int.reduceLT, Int.reduceAdd, Int.reduceSub, Int.reduceNeg, Int.reduceBEq, Int.reduceBNe, Nat.reduceBNe, Nat.reduceDiv, Nat.reduceMod, e1, e2, if_pos h1, if_pos h2]
      refine kont_call hb fn89 rfl ?_ (cmp_ok (apartV m v n t) (mostV m n lm.toNat least) (by omega) (by omega)) (Ret.flat rfl) rfl fun d h hR => ?_
      · simp only [go_sem, Nat.reduceAdd, Nat.reduceSub, Nat.reduceMul, Nat.reduceBEq, Nat.reduceLT, Nat.reduceLeDiff, Nat.reduceEqDiff, Int.reduceToNat, Int.reduceLE, Int.reduceLT, Int.reduceAdd, Int.reduceSub, Int.reduceNeg, Int.reduceBEq, Int.reduceBNe, Nat.reduceBNe, Nat.reduceDiv, Nat.reduceMod, if_pos h1, if_pos h2]
      obtain ⟨rfl, rfl⟩ := hR
      refine kont_of_hx cx_ok hb 200 ?_
      simp only [go_sem, Nat.reduceAdd, Nat.reduceSub, Nat.reduceMul, Nat.reduceBEq, Nat.reduceLT, Nat.reduceLeDiff, Nat.reduceEqDiff, Int.reduceToNat, Int.reduceLE, Int.reduceLT, Int.reduceAdd, Int.reduceSub, Int.reduceNeg, Int.reduceBEq, Int.reduceBNe, Nat.reduceBNe, Nat.reduceDiv, Nat.reduceMod, if_pos h1, if_pos h2]
      have hF : isF m v n t least lm = decide (apartV m v n t ≤ mostV m n lm.toNat least) := by unfold isF; rw [h1, h2]; rfl
      rw [hF]
      congr 2
      by_cases q1 : apartV m v n t < mostV m n lm.toNat least
      · rw [if_pos q1, decide_eq_true (Nat.le_of_lt q1)]; rfl
      · rw [if_neg q1]
        by_cases q2 : apartV m v n t = mostV m n lm.toNat least
        · rw [if_pos q2, decide_eq_true (Nat.le_of_eq q2)]; rfl
        · rw [if_neg q2]; exact (decide_eq_false (show ¬ apartV m v n t ≤ mostV m n lm.toNat least by omega)).symm
    · have e2 : ((if mayF m n least lm = true then (0 : Int) else 1) == 0) = false := by rw [if_neg h2]; rfl
      have hF : isF m v n t least lm = false := by unfold isF; rw [Bool.eq_false_iff.2 h2]; simp
      simp only [go_sem, Nat.reduceAdd, Nat.reduceSub, Nat.reduceMul, Nat.reduceBEq, Nat.reduceLT, Nat.reduceLeDiff, Nat.reduceEqDiff, Int.reduceToNat, Int.reduceLE, Int.reduceLT, Int.reduceAdd, Int.reduceSub, Int.reduceNeg, Int.reduceBEq, Int.reduceBNe, Nat.reduceBNe, Nat.reduceDiv, Nat.reduceMod, e1, e2, hF]
  · have e1 : ((if rightF m v n t = true then (0 : Int) else 1) == 0) = false := by rw [if_neg h1]; rfl
    have hF : isF m v n t least lm = false := by unfold isF; rw [Bool.eq_false_iff.2 h1]; simp
    simp only [go_sem, Nat.reduceAdd, Nat.reduceSub, Nat.reduceMul, Nat.reduceBEq, Nat.reduceLT, Nat.reduceLeDiff, Nat.reduceEqDiff, Int.reduceToNat, Int.reduceLE, Int.reduceLT, Int.reduceAdd, Int.reduceSub, Int.reduceNeg, Int.reduceBEq, Int.reduceBNe, Nat.reduceBNe, Nat.reduceDiv, Nat.reduceMod, e1, hF]
theorem ref_ok (a : Nat) (ha : a < 2 ^ 128) : AFn Try.prog 53 [num a] (Ret (dg a)) := by
  have e : a / 18446744073709551616 * 18446744073709551616 + a % 18446744073709551616 = a := by omega
  refine AFn_hxk 0 cx_ok 200 Try.func53 rfl Try.ntmps53 Try.results53 rfl fun base w hb => ?_
  simp only [go_sem, Nat.reduceAdd, Nat.reduceSub, Nat.reduceMul, Nat.reduceBEq, Nat.reduceLT, Nat.reduceLeDiff, Nat.reduceEqDiff, Int.reduceToNat, Int.reduceLE, Int.reduceLT, Int.reduceAdd, Int.reduceSub, Int.reduceNeg, Int.reduceBEq, Int.reduceBNe, Nat.reduceBNe, Nat.reduceDiv, Nat.reduceMod]
  refine kont_call hb fn93 rfl ?_ (rtwo_ok (a / 18446744073709551616) (a % 18446744073709551616) (by omega) (by omega)) (Ret.flat rfl) rfl fun d h hR => ?_
  · simp only [go_sem, Nat.reduceAdd, Nat.reduceSub, Nat.reduceMul, Nat.reduceBEq, Nat.reduceLT, Nat.reduceLeDiff, Nat.reduceEqDiff, Int.reduceToNat, Int.reduceLE, Int.reduceLT, Int.reduceAdd, Int.reduceSub, Int.reduceNeg, Int.reduceBEq, Int.reduceBNe, Nat.reduceBNe, Nat.reduceDiv, Nat.reduceMod, e]
  obtain ⟨rfl, rfl⟩ := hR
  refine kont_of_hx cx_ok hb 200 ?_
  simp only [go_sem, Nat.reduceAdd, Nat.reduceSub, Nat.reduceMul, Nat.reduceBEq, Nat.reduceLT, Nat.reduceLeDiff, Nat.reduceEqDiff, Int.reduceToNat, Int.reduceLE, Int.reduceLT, Int.reduceAdd, Int.reduceSub, Int.reduceNeg, Int.reduceBEq, Int.reduceBNe, Nat.reduceBNe, Nat.reduceDiv, Nat.reduceMod, e]
theorem two33_ok : AFn Try.prog 57 [] (Ret (dbool true)) := by
  have r1 : rightF 65536 100 131072 300 = true := by decide
  have r2 : rightF 65536 100 131072 1000 = true := by decide
  have v1 : apartV 65536 100 131072 300 = 429496729600 := by decide
  have v2 : apartV 65536 100 131072 1000 = 3435973836800 := by decide
  have f1 : mayF 65536 131072 65536 100 = true := by decide
  have v3 : mostV 65536 131072 (100 : Int).toNat 65536 = 1735166787584 := by decide
  have i1 : isF 65536 100 131072 300 65536 100 = true := by unfold isF; rw [r1, f1, v1, v3]; rfl
  have i2 : isF 65536 100 131072 1000 65536 100 = false := by unfold isF; rw [r2, f1, v2, v3]; rfl
  have s1 := apart_ok 65536 100 131072 300 (by decide) (by decide) (by decide) (by decide)
  rw [if_pos r1, if_pos r1, v1] at s1
  have s2 := most_ok 65536 100 131072 300 100 65536 (by decide) (by decide) (by decide)
  rw [if_pos f1, if_pos f1, v3] at s2
  have s3 := fair_ok 65536 100 131072 300 100 65536 (by decide) (by decide) (by decide) (by decide) (by decide)
  have s4 := fair_ok 65536 100 131072 1000 100 65536 (by decide) (by decide) (by decide) (by decide) (by decide)
  rw [i1] at s3
  rw [i2] at s4
  have c1 : ((65536 : Nat) : Int) = 65536 := rfl
  have c2 : ((131072 : Nat) : Int) = 131072 := rfl
  have c3 : ((100 : Nat) : Int) = 100 := rfl
  have c4 : ((300 : Nat) : Int) = 300 := rfl
  have c5 : ((1000 : Nat) : Int) = 1000 := rfl
  have c6 : ((429496729600 : Nat) : Int) = 429496729600 := rfl
  have c7 : ((1735166787584 : Nat) : Int) = 1735166787584 := rfl
  refine AFn_hxk 0 cx_ok 200 Try.func57 rfl Try.ntmps57 Try.results57 rfl fun base w hb => ?_
  simp only [go_sem, Nat.reduceAdd, Nat.reduceSub, Nat.reduceMul, Nat.reduceBEq, Nat.reduceLT, Nat.reduceLeDiff, Nat.reduceEqDiff, Int.reduceToNat, Int.reduceLE, Int.reduceLT, Int.reduceAdd, Int.reduceSub, Int.reduceNeg, Int.reduceBEq, Int.reduceBNe, Nat.reduceBNe, Nat.reduceDiv, Nat.reduceMod]
  refine kont_call hb fn49 rfl ?_ s1 (Ret.flat rfl) rfl fun d h hR => ?_
  · simp only [go_sem, Nat.reduceAdd, Nat.reduceSub, Nat.reduceMul, Nat.reduceBEq, Nat.reduceLT, Nat.reduceLeDiff, Nat.reduceEqDiff, Int.reduceToNat, Int.reduceLE, Int.reduceLT, Int.reduceAdd, Int.reduceSub, Int.reduceNeg, Int.reduceBEq, Int.reduceBNe, Nat.reduceBNe, Nat.reduceDiv, Nat.reduceMod, c1, c2, c3, c4]
  obtain ⟨rfl, rfl⟩ := hR
  refine kont_of_hx cx_ok hb 200 ?_
  simp only [go_sem, Nat.reduceAdd, Nat.reduceSub, Nat.reduceMul, Nat.reduceBEq, Nat.reduceLT, Nat.reduceLeDiff, Nat.reduceEqDiff, Int.reduceToNat, Int.reduceLE, Int.reduceLT, Int.reduceAdd, Int.reduceSub, Int.reduceNeg, Int.reduceBEq, Int.reduceBNe, Nat.reduceBNe, Nat.reduceDiv, Nat.reduceMod, c1, c2, c3, c4]
  refine kont_call hb fn50 rfl ?_ s2 (Ret.flat rfl) rfl fun d h hR => ?_
  · simp only [go_sem, Nat.reduceAdd, Nat.reduceSub, Nat.reduceMul, Nat.reduceBEq, Nat.reduceLT, Nat.reduceLeDiff, Nat.reduceEqDiff, Int.reduceToNat, Int.reduceLE, Int.reduceLT, Int.reduceAdd, Int.reduceSub, Int.reduceNeg, Int.reduceBEq, Int.reduceBNe, Nat.reduceBNe, Nat.reduceDiv, Nat.reduceMod, c1, c2, c3, c4]
  obtain ⟨rfl, rfl⟩ := hR
  refine kont_of_hx cx_ok hb 200 ?_
  simp only [go_sem, Nat.reduceAdd, Nat.reduceSub, Nat.reduceMul, Nat.reduceBEq, Nat.reduceLT, Nat.reduceLeDiff, Nat.reduceEqDiff, Int.reduceToNat, Int.reduceLE, Int.reduceLT, Int.reduceAdd, Int.reduceSub, Int.reduceNeg, Int.reduceBEq, Int.reduceBNe, Nat.reduceBNe, Nat.reduceDiv, Nat.reduceMod, c1, c2, c3, c4]
  refine kont_of_hx cx_ok hb 200 ?_
  simp only [go_sem, Nat.reduceAdd, Nat.reduceSub, Nat.reduceMul, Nat.reduceBEq, Nat.reduceLT, Nat.reduceLeDiff, Nat.reduceEqDiff, Int.reduceToNat, Int.reduceLE, Int.reduceLT, Int.reduceAdd, Int.reduceSub, Int.reduceNeg, Int.reduceBEq, Int.reduceBNe, Nat.reduceBNe, Nat.reduceDiv, Nat.reduceMod]
  refine kont_hax cx_ok hb 200 mixed [(0, true), (1, true), (2, true), (3, true), (4, true), (5, true), (6, true), (7, true), (8, false), (9, true), (10, true), (11, true), (12, true), (13, false), (14, true), (15, true), (16, true), (17, true), (18, true), (19, false), (20, true), (21, true), (22, true), (23, true), (24, false), (25, true), (26, true), (27, true)] (by kernel_rfl) (by kernel_rfl) ?_
  simp only [go_sem, Nat.reduceAdd, Nat.reduceSub, Nat.reduceMul, Nat.reduceBEq, Nat.reduceLT, Nat.reduceLeDiff, Nat.reduceEqDiff, Int.reduceToNat, Int.reduceLE, Int.reduceLT, Int.reduceAdd, Int.reduceSub, Int.reduceNeg, Int.reduceBEq, Int.reduceBNe, Nat.reduceBNe, Nat.reduceDiv, Nat.reduceMod]
  refine AX_call hb fn98 rfl ?_ (of_ok 429496729600 (by decide)) (Ret.flat rfl) rfl fun d h hR => ?_
  · simp only [go_sem, Nat.reduceAdd, Nat.reduceSub, Nat.reduceMul, Nat.reduceBEq, Nat.reduceLT, Nat.reduceLeDiff, Nat.reduceEqDiff, Int.reduceToNat, Int.reduceLE, Int.reduceLT, Int.reduceAdd, Int.reduceSub, Int.reduceNeg, Int.reduceBEq, Int.reduceBNe, Nat.reduceBNe, Nat.reduceDiv, Nat.reduceMod, c6, beq_self_eq_true, Bool.and_self]
  obtain ⟨rfl, rfl⟩ := hR
  refine AX_of_hax cx_ok hb ?_
  simp only [go_sem, Nat.reduceAdd, Nat.reduceSub, Nat.reduceMul, Nat.reduceBEq, Nat.reduceLT, Nat.reduceLeDiff, Nat.reduceEqDiff, Int.reduceToNat, Int.reduceLE, Int.reduceLT, Int.reduceAdd, Int.reduceSub, Int.reduceNeg, Int.reduceBEq, Int.reduceBNe, Nat.reduceBNe, Nat.reduceDiv, Nat.reduceMod, c6, beq_self_eq_true, Bool.and_self]
  refine AX_call hb fn98 rfl ?_ (of_ok 1735166787584 (by decide)) (Ret.flat rfl) rfl fun d h hR => ?_
  · simp only [go_sem, Nat.reduceAdd, Nat.reduceSub, Nat.reduceMul, Nat.reduceBEq, Nat.reduceLT, Nat.reduceLeDiff, Nat.reduceEqDiff, Int.reduceToNat, Int.reduceLE, Int.reduceLT, Int.reduceAdd, Int.reduceSub, Int.reduceNeg, Int.reduceBEq, Int.reduceBNe, Nat.reduceBNe, Nat.reduceDiv, Nat.reduceMod, c7, beq_self_eq_true, Bool.and_self]
  obtain ⟨rfl, rfl⟩ := hR
  refine AX_of_hax cx_ok hb ?_
  simp only [go_sem, Nat.reduceAdd, Nat.reduceSub, Nat.reduceMul, Nat.reduceBEq, Nat.reduceLT, Nat.reduceLeDiff, Nat.reduceEqDiff, Int.reduceToNat, Int.reduceLE, Int.reduceLT, Int.reduceAdd, Int.reduceSub, Int.reduceNeg, Int.reduceBEq, Int.reduceBNe, Nat.reduceBNe, Nat.reduceDiv, Nat.reduceMod, c7, beq_self_eq_true, Bool.and_self]
  refine AX_call hb fn51 rfl ?_ s3 (Ret.flat rfl) rfl fun d h hR => ?_
  · simp only [go_sem, Nat.reduceAdd, Nat.reduceSub, Nat.reduceMul, Nat.reduceBEq, Nat.reduceLT, Nat.reduceLeDiff, Nat.reduceEqDiff, Int.reduceToNat, Int.reduceLE, Int.reduceLT, Int.reduceAdd, Int.reduceSub, Int.reduceNeg, Int.reduceBEq, Int.reduceBNe, Nat.reduceBNe, Nat.reduceDiv, Nat.reduceMod, c1, c2, c3, c4]
  obtain ⟨rfl, rfl⟩ := hR
  refine AX_of_hax cx_ok hb ?_
  simp only [go_sem, Nat.reduceAdd, Nat.reduceSub, Nat.reduceMul, Nat.reduceBEq, Nat.reduceLT, Nat.reduceLeDiff, Nat.reduceEqDiff, Int.reduceToNat, Int.reduceLE, Int.reduceLT, Int.reduceAdd, Int.reduceSub, Int.reduceNeg, Int.reduceBEq, Int.reduceBNe, Nat.reduceBNe, Nat.reduceDiv, Nat.reduceMod, c1, c2, c3, c4]
  refine AX_call hb fn51 rfl ?_ s4 (Ret.flat rfl) rfl fun d h hR => ?_
  · simp only [go_sem, Nat.reduceAdd, Nat.reduceSub, Nat.reduceMul, Nat.reduceBEq, Nat.reduceLT, Nat.reduceLeDiff, Nat.reduceEqDiff, Int.reduceToNat, Int.reduceLE, Int.reduceLT, Int.reduceAdd, Int.reduceSub, Int.reduceNeg, Int.reduceBEq, Int.reduceBNe, Nat.reduceBNe, Nat.reduceDiv, Nat.reduceMod, c1, c2, c3, c5]
  obtain ⟨rfl, rfl⟩ := hR
  refine AX_of_hax cx_ok hb ?_
  simp only [go_sem, Nat.reduceAdd, Nat.reduceSub, Nat.reduceMul, Nat.reduceBEq, Nat.reduceLT, Nat.reduceLeDiff, Nat.reduceEqDiff, Int.reduceToNat, Int.reduceLE, Int.reduceLT, Int.reduceAdd, Int.reduceSub, Int.reduceNeg, Int.reduceBEq, Int.reduceBNe, Nat.reduceBNe, Nat.reduceDiv, Nat.reduceMod, c1, c2, c3, c5]
end Go.Fg.X
