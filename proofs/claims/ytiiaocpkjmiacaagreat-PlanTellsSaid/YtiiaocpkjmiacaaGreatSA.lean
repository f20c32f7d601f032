/- Walks of the functions that the statement reaches. No conditions: contracts and laws. -/
import Derived.Test.YtiiaocpkjmiacaaGreatPB4
import Derived.Test.YtiiaocpkjmiacaaGreatYH8
import Derived.Test.YtiiaocpkjmiacaaGreatXW3
namespace Go.Fg.X
open Go.Proofs Go.Fg
set_option maxRecDepth 100000
set_option maxHeartbeats 4000000
set_option linter.unusedSimpArgs false
set_option linter.unusedVariables false
/-! Lists without knees. -/
theorem knees0_ok (l : List Nc) (hl : l.length < 1048576) (hk : ∀ c ∈ l, c.of < 3) : AFn Tryz.prog 79 [ncs l] (Ret .nil) := by
  refine AFn_hxk 0 cx_ok 200 Tryz.func79 rfl Tryz.ntmps79 Tryz.results79 rfl fun base w hb => ?_
  simp only [go_sem, Nat.reduceAdd, Nat.reduceSub, Nat.reduceMul, Nat.reduceBEq, Nat.reduceLT, Nat.reduceLeDiff, Nat.reduceEqDiff, Int.reduceToNat, Int.reduceLE, Int.reduceLT, Int.reduceAdd, Int.reduceSub, Int.reduceNeg, Int.reduceBEq, Int.reduceBNe, Nat.reduceBNe, Nat.reduceDiv, Nat.reduceMod]
  refine kont_for (fun i s => s = ⟨[(3, .nil), (7, ncs l), (8, dint l.length), (9, dint i)], []⟩) l.length (Weak.frame (by simp only [go_sem, Nat.reduceAdd, Nat.reduceSub, Nat.reduceMul, Nat.reduceBEq, Nat.reduceLT, Nat.reduceLeDiff, Nat.reduceEqDiff, Int.reduceToNat, Int.reduceLE, Int.reduceLT, Int.reduceAdd, Int.reduceSub, Int.reduceNeg, Int.reduceBEq, Int.reduceBNe, Nat.reduceBNe, Nat.reduceDiv, Nat.reduceMod])) rfl ?_
  rintro i s hi rfl
  have hwr := wrap_succ (show i < 4611686018427387904 by omega)
  refine kont_of_hx cx_ok hb 200 ?_
  simp only [go_sem, Nat.reduceAdd, Nat.reduceSub, Nat.reduceMul, Nat.reduceBEq, Nat.reduceLT, Nat.reduceLeDiff, Nat.reduceEqDiff, Int.reduceToNat, Int.reduceLE, Int.reduceLT, Int.reduceAdd, Int.reduceSub, Int.reduceNeg, Int.reduceBEq, Int.reduceBNe, Nat.reduceBNe, Nat.reduceDiv, Nat.reduceMod]
  first | refine hite_lt hi (fun hk1 => ?_) (fun hk1 => ?_) | refine hite_ltI hi (fun hk1 => ?_) (fun hk1 => ?_)
  · obtain ⟨c, hc⟩ : ∃ c, c = l.getD i default := ⟨_, rfl⟩
    have hcl := hk c (by rw [hc, List.getD_eq_getElem?_getD, List.getElem?_eq_getElem hk1]; exact List.getElem_mem hk1)
    have e3 : (ofV c.a c.d c.b == 3) = false := by have : ofV c.a c.d c.b = c.of := rfl; rw [this]; simp; omega
    have e4 : (ofV c.a c.d c.b == 4) = false := by have : ofV c.a c.d c.b = c.of := rfl; rw [this]; simp; omega
    simp only [go_sem, Nat.reduceAdd, Nat.reduceSub, Nat.reduceMul, Nat.reduceBEq, Nat.reduceLT, Nat.reduceLeDiff, Nat.reduceEqDiff, Int.reduceToNat, Int.reduceLE, Int.reduceLT, Int.reduceAdd, Int.reduceSub, Int.reduceNeg, Int.reduceBEq, Int.reduceBNe, Nat.reduceBNe, Nat.reduceDiv, Nat.reduceMod, hk1, ← hc]
    refine kont_call hb fn63 rfl ?_ (ofc_ok c.a c.d c.b) (Ret.flat rfl) rfl fun d h hR => ?_
    · simp only [go_sem, Nat.reduceAdd, Nat.reduceSub, Nat.reduceMul, Nat.reduceBEq, Nat.reduceLT, Nat.reduceLeDiff, Nat.reduceEqDiff, Int.reduceToNat, Int.reduceLE, Int.reduceLT, Int.reduceAdd, Int.reduceSub, Int.reduceNeg, Int.reduceBEq, Int.reduceBNe, Nat.reduceBNe, Nat.reduceDiv, Nat.reduceMod, e3, e4]
    obtain ⟨rfl, rfl⟩ := hR
    refine kont_of_hx cx_ok hb 200 ?_
    simp only [go_sem, Nat.reduceAdd, Nat.reduceSub, Nat.reduceMul, Nat.reduceBEq, Nat.reduceLT, Nat.reduceLeDiff, Nat.reduceEqDiff, Int.reduceToNat, Int.reduceLE, Int.reduceLT, Int.reduceAdd, Int.reduceSub, Int.reduceNeg, Int.reduceBEq, Int.reduceBNe, Nat.reduceBNe, Nat.reduceDiv, Nat.reduceMod, e3, e4]
    refine ⟨hk1, _, Weak.to 0 (fr' := [(3, .nil), (7, ncs l), (8, dint l.length), (9, dint (i + 1 : Nat))]) (h' := []) (by (simp only [go_sem, Nat.reduceAdd, Nat.reduceSub, Nat.reduceMul, Nat.reduceBEq, Nat.reduceLT, Nat.reduceLeDiff, Nat.reduceEqDiff, Int.reduceToNat, Int.reduceLE, Int.reduceLT, Int.reduceAdd, Int.reduceSub, Int.reduceNeg, Int.reduceBEq, Int.reduceBNe, Nat.reduceBNe, Nat.reduceDiv, Nat.reduceMod, hwr]) <;> simp), rfl⟩
  · subst hk1
    refine kont_of_hx cx_ok hb 200 ?_
    simp only [go_sem, Nat.reduceAdd, Nat.reduceSub, Nat.reduceMul, Nat.reduceBEq, Nat.reduceLT, Nat.reduceLeDiff, Nat.reduceEqDiff, Int.reduceToNat, Int.reduceLE, Int.reduceLT, Int.reduceAdd, Int.reduceSub, Int.reduceNeg, Int.reduceBEq, Int.reduceBNe, Nat.reduceBNe, Nat.reduceDiv, Nat.reduceMod]
    refine kont_call hb fn103 rfl ?_ sortz_ok (Ret.flat rfl) rfl fun d h hR => ?_
    · simp only [go_sem, Nat.reduceAdd, Nat.reduceSub, Nat.reduceMul, Nat.reduceBEq, Nat.reduceLT, Nat.reduceLeDiff, Nat.reduceEqDiff, Int.reduceToNat, Int.reduceLE, Int.reduceLT, Int.reduceAdd, Int.reduceSub, Int.reduceNeg, Int.reduceBEq, Int.reduceBNe, Nat.reduceBNe, Nat.reduceDiv, Nat.reduceMod]
    obtain ⟨rfl, rfl⟩ := hR
    refine kont_of_hx cx_ok hb 200 ?_
    simp only [go_sem, Nat.reduceAdd, Nat.reduceSub, Nat.reduceMul, Nat.reduceBEq, Nat.reduceLT, Nat.reduceLeDiff, Nat.reduceEqDiff, Int.reduceToNat, Int.reduceLE, Int.reduceLT, Int.reduceAdd, Int.reduceSub, Int.reduceNeg, Int.reduceBEq, Int.reduceBNe, Nat.reduceBNe, Nat.reduceDiv, Nat.reduceMod]
    refine kont_call hb fn104 rfl ?_ compz_ok (Ret.flat rfl) rfl fun d h hR => ?_
    · simp only [go_sem, Nat.reduceAdd, Nat.reduceSub, Nat.reduceMul, Nat.reduceBEq, Nat.reduceLT, Nat.reduceLeDiff, Nat.reduceEqDiff, Int.reduceToNat, Int.reduceLE, Int.reduceLT, Int.reduceAdd, Int.reduceSub, Int.reduceNeg, Int.reduceBEq, Int.reduceBNe, Nat.reduceBNe, Nat.reduceDiv, Nat.reduceMod]
    obtain ⟨rfl, rfl⟩ := hR
    refine kont_of_hx cx_ok hb 200 ?_
    simp only [go_sem, Nat.reduceAdd, Nat.reduceSub, Nat.reduceMul, Nat.reduceBEq, Nat.reduceLT, Nat.reduceLeDiff, Nat.reduceEqDiff, Int.reduceToNat, Int.reduceLE, Int.reduceLT, Int.reduceAdd, Int.reduceSub, Int.reduceNeg, Int.reduceBEq, Int.reduceBNe, Nat.reduceBNe, Nat.reduceDiv, Nat.reduceMod]
def fullB (t : Nat) (l : List Nc) : Bool := decide (65536 < sumG (fun c => c.b) l * t)
theorem slope_lt {l : List Nc} (hl : l.length < 1048576) (hc : ∀ c ∈ l, c.Lt) : sumG (fun c => c.b) l < 2 ^ 111 := by
  have h1 := sumF_le (g := fun c => c.b) (M := 2 ^ 64) (fun c h => by have := h.2.2; omega) (l := l) (s := 0) hc
  have h2 := Nat.mul_le_mul_right (2 ^ 64) (show l.length ≤ 1048576 by omega)
  unfold sumG; omega
theorem full0_ok (t : Nat) (l : List Nc) (hl : l.length < 1048576) (hc : ∀ c ∈ l, c.Lt) (hk : ∀ c ∈ l, c.of < 3) (hm : mayE t l = 0) : AFn Tryz.prog 82 [dint t, ncs l] (Ret (.tup [u64 0, dbool (fullB t l)])) := by
  have ht : t ≤ 65536 := by unfold mayE at hm; split at hm; cases hm; omega
  have hab := above_ok (sumG (fun c => c.b) l) t 1 (slope_lt hl hc) ht (by decide)
  have e0 : (mayE t l != 0) = false := by rw [hm]; rfl
  refine AFn_hxk 0 cx_ok 200 Tryz.func82 rfl Tryz.ntmps82 Tryz.results82 rfl fun base w hb => ?_
  simp only [go_sem, Nat.reduceAdd, Nat.reduceSub, Nat.reduceMul, Nat.reduceBEq, Nat.reduceLT, Nat.reduceLeDiff, Nat.reduceEqDiff, Int.reduceToNat, Int.reduceLE, Int.reduceLT, Int.reduceAdd, Int.reduceSub, Int.reduceNeg, Int.reduceBEq, Int.reduceBNe, Nat.reduceBNe, Nat.reduceDiv, Nat.reduceMod]
  refine kont_call hb fn81 rfl ?_ (amay_ok t l hl) (Ret.flat rfl) rfl fun d h hR => ?_
  · simp only [go_sem, Nat.reduceAdd, Nat.reduceSub, Nat.reduceMul, Nat.reduceBEq, Nat.reduceLT, Nat.reduceLeDiff, Nat.reduceEqDiff, Int.reduceToNat, Int.reduceLE, Int.reduceLT, Int.reduceAdd, Int.reduceSub, Int.reduceNeg, Int.reduceBEq, Int.reduceBNe, Nat.reduceBNe, Nat.reduceDiv, Nat.reduceMod, e0]
  obtain ⟨rfl, rfl⟩ := hR
  refine kont_of_hx cx_ok hb 200 ?_
  simp only [go_sem, Nat.reduceAdd, Nat.reduceSub, Nat.reduceMul, Nat.reduceBEq, Nat.reduceLT, Nat.reduceLeDiff, Nat.reduceEqDiff, Int.reduceToNat, Int.reduceLE, Int.reduceLT, Int.reduceAdd, Int.reduceSub, Int.reduceNeg, Int.reduceBEq, Int.reduceBNe, Nat.reduceBNe, Nat.reduceDiv, Nat.reduceMod, e0]
  refine kont_call hb fn79 rfl ?_ (knees0_ok l hl hk) (Ret.flat rfl) rfl fun d h hR => ?_
  · simp only [go_sem, Nat.reduceAdd, Nat.reduceSub, Nat.reduceMul, Nat.reduceBEq, Nat.reduceLT, Nat.reduceLeDiff, Nat.reduceEqDiff, Int.reduceToNat, Int.reduceLE, Int.reduceLT, Int.reduceAdd, Int.reduceSub, Int.reduceNeg, Int.reduceBEq, Int.reduceBNe, Nat.reduceBNe, Nat.reduceDiv, Nat.reduceMod]
  obtain ⟨rfl, rfl⟩ := hR
  refine kont_of_hx cx_ok hb 200 ?_
  simp only [go_sem, Nat.reduceAdd, Nat.reduceSub, Nat.reduceMul, Nat.reduceBEq, Nat.reduceLT, Nat.reduceLeDiff, Nat.reduceEqDiff, Int.reduceToNat, Int.reduceLE, Int.reduceLT, Int.reduceAdd, Int.reduceSub, Int.reduceNeg, Int.reduceBEq, Int.reduceBNe, Nat.reduceBNe, Nat.reduceDiv, Nat.reduceMod]
  refine kont_callR0 hb fn108 rfl ?_ (idxz_ok _ (.clo 109 0 [.ptr 1 0 0 0, .ptr 0 0 0 0])) rfl fun d2 hR => ?_
  · simp only [go_sem, Nat.reduceAdd, Nat.reduceSub, Nat.reduceMul, Nat.reduceBEq, Nat.reduceLT, Nat.reduceLeDiff, Nat.reduceEqDiff, Int.reduceToNat, Int.reduceLE, Int.reduceLT, Int.reduceAdd, Int.reduceSub, Int.reduceNeg, Int.reduceBEq, Int.reduceBNe, Nat.reduceBNe, Nat.reduceDiv, Nat.reduceMod]
  subst hR
  refine kont_of_hx cx_ok hb 200 ?_
  simp only [go_sem, Nat.reduceAdd, Nat.reduceSub, Nat.reduceMul, Nat.reduceBEq, Nat.reduceLT, Nat.reduceLeDiff, Nat.reduceEqDiff, Int.reduceToNat, Int.reduceLE, Int.reduceLT, Int.reduceAdd, Int.reduceSub, Int.reduceNeg, Int.reduceBEq, Int.reduceBNe, Nat.reduceBNe, Nat.reduceDiv, Nat.reduceMod]
  refine kont_hax cx_ok hb 200 mixed [(0, true), (2, true), (1, false), (3, false), (4, true), (5, true)] (by kernel_rfl) (by kernel_rfl) ?_
  simp only [go_sem, Nat.reduceAdd, Nat.reduceSub, Nat.reduceMul, Nat.reduceBEq, Nat.reduceLT, Nat.reduceLeDiff, Nat.reduceEqDiff, Int.reduceToNat, Int.reduceLE, Int.reduceLT, Int.reduceAdd, Int.reduceSub, Int.reduceNeg, Int.reduceBEq, Int.reduceBNe, Nat.reduceBNe, Nat.reduceDiv, Nat.reduceMod]
  refine AX_call hb fn78 rfl ?_ (sslope_ok l hl hc) (Ret.flat rfl) rfl fun d h hR => ?_
  · simp only [go_sem, Nat.reduceAdd, Nat.reduceSub, Nat.reduceMul, Nat.reduceBEq, Nat.reduceLT, Nat.reduceLeDiff, Nat.reduceEqDiff, Int.reduceToNat, Int.reduceLE, Int.reduceLT, Int.reduceAdd, Int.reduceSub, Int.reduceNeg, Int.reduceBEq, Int.reduceBNe, Nat.reduceBNe, Nat.reduceDiv, Nat.reduceMod]
  obtain ⟨rfl, rfl⟩ := hR
  refine AX_of_hax cx_ok hb ?_
  simp only [go_sem, Nat.reduceAdd, Nat.reduceSub, Nat.reduceMul, Nat.reduceBEq, Nat.reduceLT, Nat.reduceLeDiff, Nat.reduceEqDiff, Int.reduceToNat, Int.reduceLE, Int.reduceLT, Int.reduceAdd, Int.reduceSub, Int.reduceNeg, Int.reduceBEq, Int.reduceBNe, Nat.reduceBNe, Nat.reduceDiv, Nat.reduceMod]
  refine AX_call hb fn110 rfl ?_ hab (Ret.flat rfl) rfl fun d h hR => ?_
  · simp only [go_sem, Nat.reduceAdd, Nat.reduceSub, Nat.reduceMul, Nat.reduceBEq, Nat.reduceLT, Nat.reduceLeDiff, Nat.reduceEqDiff, Int.reduceToNat, Int.reduceLE, Int.reduceLT, Int.reduceAdd, Int.reduceSub, Int.reduceNeg, Int.reduceBEq, Int.reduceBNe, Nat.reduceBNe, Nat.reduceDiv, Nat.reduceMod]
  obtain ⟨rfl, rfl⟩ := hR
  refine AX_of_hax cx_ok hb ?_
  simp only [go_sem, Nat.reduceAdd, Nat.reduceSub, Nat.reduceMul, Nat.reduceBEq, Nat.reduceLT, Nat.reduceLeDiff, Nat.reduceEqDiff, Int.reduceToNat, Int.reduceLE, Int.reduceLT, Int.reduceAdd, Int.reduceSub, Int.reduceNeg, Int.reduceBEq, Int.reduceBNe, Nat.reduceBNe, Nat.reduceDiv, Nat.reduceMod]
  rfl
def fitsE (t : Int) (l : List Nc) : Int := if mayE t l ≠ 0 then mayE t l else if fullB t.toNat l = true then 22 else 0
theorem fits0_ok (t : Int) (l : List Nc) (hl : l.length < 1048576) (hc : ∀ c ∈ l, c.Lt) (hk : ∀ c ∈ l, c.of < 3) : AFn Tryz.prog 44 [dint t, ncs l] (Ret (dint (fitsE t l))) := by
  by_cases hm : mayE t l = 0
  · have ht : ∃ n : Nat, t = (n : Int) := ⟨t.toNat, by unfold mayE at hm; split at hm; cases hm; omega⟩
    obtain ⟨n, rfl⟩ := ht
    have e0 : (mayE n l != 0) = false := by rw [hm]; rfl
    have e : fitsE n l = if fullB n l = true then 22 else 0 := by rw [fitsE, if_neg (by simpa using hm)]; rfl
    rw [e]
    refine AFn_hxk 0 cx_ok 200 Tryz.func44 rfl Tryz.ntmps44 Tryz.results44 rfl fun base w hb => ?_
    simp only [go_sem, Nat.reduceAdd, Nat.reduceSub, Nat.reduceMul, Nat.reduceBEq, Nat.reduceLT, Nat.reduceLeDiff, Nat.reduceEqDiff, Int.reduceToNat, Int.reduceLE, Int.reduceLT, Int.reduceAdd, Int.reduceSub, Int.reduceNeg, Int.reduceBEq, Int.reduceBNe, Nat.reduceBNe, Nat.reduceDiv, Nat.reduceMod]
    refine kont_call hb fn81 rfl ?_ (amay_ok n l hl) (Ret.flat rfl) rfl fun d h hR => ?_
    · simp only [go_sem, Nat.reduceAdd, Nat.reduceSub, Nat.reduceMul, Nat.reduceBEq, Nat.reduceLT, Nat.reduceLeDiff, Nat.reduceEqDiff, Int.reduceToNat, Int.reduceLE, Int.reduceLT, Int.reduceAdd, Int.reduceSub, Int.reduceNeg, Int.reduceBEq, Int.reduceBNe, Nat.reduceBNe, Nat.reduceDiv, Nat.reduceMod, e0]
    obtain ⟨rfl, rfl⟩ := hR
    refine kont_of_hx cx_ok hb 200 ?_
    simp only [go_sem, Nat.reduceAdd, Nat.reduceSub, Nat.reduceMul, Nat.reduceBEq, Nat.reduceLT, Nat.reduceLeDiff, Nat.reduceEqDiff, Int.reduceToNat, Int.reduceLE, Int.reduceLT, Int.reduceAdd, Int.reduceSub, Int.reduceNeg, Int.reduceBEq, Int.reduceBNe, Nat.reduceBNe, Nat.reduceDiv, Nat.reduceMod, e0]
    refine kont_call hb fn82 rfl ?_ (full0_ok n l hl hc hk hm) (Ret.flat rfl) rfl fun d h hR => ?_
    · simp only [go_sem, Nat.reduceAdd, Nat.reduceSub, Nat.reduceMul, Nat.reduceBEq, Nat.reduceLT, Nat.reduceLeDiff, Nat.reduceEqDiff, Int.reduceToNat, Int.reduceLE, Int.reduceLT, Int.reduceAdd, Int.reduceSub, Int.reduceNeg, Int.reduceBEq, Int.reduceBNe, Nat.reduceBNe, Nat.reduceDiv, Nat.reduceMod]
    obtain ⟨rfl, rfl⟩ := hR
    refine kont_of_hx cx_ok hb 200 ?_
    simp only [go_sem, Nat.reduceAdd, Nat.reduceSub, Nat.reduceMul, Nat.reduceBEq, Nat.reduceLT, Nat.reduceLeDiff, Nat.reduceEqDiff, Int.reduceToNat, Int.reduceLE, Int.reduceLT, Int.reduceAdd, Int.reduceSub, Int.reduceNeg, Int.reduceBEq, Int.reduceBNe, Nat.reduceBNe, Nat.reduceDiv, Nat.reduceMod]
    cases fullB n l
    · simp only [go_sem, Nat.reduceAdd, Nat.reduceSub, Nat.reduceMul, Nat.reduceBEq, Nat.reduceLT, Nat.reduceLeDiff, Nat.reduceEqDiff, Int.reduceToNat, Int.reduceLE, Int.reduceLT, Int.reduceAdd, Int.reduceSub, Int.reduceNeg, Int.reduceBEq, Int.reduceBNe, Nat.reduceBNe, Nat.reduceDiv, Nat.reduceMod]
      rfl
    · simp only [go_sem, Nat.reduceAdd, Nat.reduceSub, Nat.reduceMul, Nat.reduceBEq, Nat.reduceLT, Nat.reduceLeDiff, Nat.reduceEqDiff, Int.reduceToNat, Int.reduceLE, Int.reduceLT, Int.reduceAdd, Int.reduceSub, Int.reduceNeg, Int.reduceBEq, Int.reduceBNe, Nat.reduceBNe, Nat.reduceDiv, Nat.reduceMod]
      rfl
  · have e0 : (mayE t l != 0) = true := by simpa using hm
    have e : fitsE t l = mayE t l := by rw [fitsE, if_pos hm]
    rw [e]
    refine AFn_hxk 0 cx_ok 200 Tryz.func44 rfl Tryz.ntmps44 Tryz.results44 rfl fun base w hb => ?_
    simp only [go_sem, Nat.reduceAdd, Nat.reduceSub, Nat.reduceMul, Nat.reduceBEq, Nat.reduceLT, Nat.reduceLeDiff, Nat.reduceEqDiff, Int.reduceToNat, Int.reduceLE, Int.reduceLT, Int.reduceAdd, Int.reduceSub, Int.reduceNeg, Int.reduceBEq, Int.reduceBNe, Nat.reduceBNe, Nat.reduceDiv, Nat.reduceMod]
    refine kont_call hb fn81 rfl ?_ (amay_ok t l hl) (Ret.flat rfl) rfl fun d h hR => ?_
    · simp only [go_sem, Nat.reduceAdd, Nat.reduceSub, Nat.reduceMul, Nat.reduceBEq, Nat.reduceLT, Nat.reduceLeDiff, Nat.reduceEqDiff, Int.reduceToNat, Int.reduceLE, Int.reduceLT, Int.reduceAdd, Int.reduceSub, Int.reduceNeg, Int.reduceBEq, Int.reduceBNe, Nat.reduceBNe, Nat.reduceDiv, Nat.reduceMod, e0]
    obtain ⟨rfl, rfl⟩ := hR
    refine kont_of_hx cx_ok hb 200 ?_
    simp only [go_sem, Nat.reduceAdd, Nat.reduceSub, Nat.reduceMul, Nat.reduceBEq, Nat.reduceLT, Nat.reduceLeDiff, Nat.reduceEqDiff, Int.reduceToNat, Int.reduceLE, Int.reduceLT, Int.reduceAdd, Int.reduceSub, Int.reduceNeg, Int.reduceBEq, Int.reduceBNe, Nat.reduceBNe, Nat.reduceDiv, Nat.reduceMod, e0]
def roomV (t : Int) (l : List Nc) : Nat := if fitsE t l = 0 then (65536 - sumG (fun c => c.b) l * t.toNat) / t.toNat else 0
theorem room0_ok (t : Int) (l : List Nc) (hl : l.length < 1048576) (hc : ∀ c ∈ l, c.Lt) (hk : ∀ c ∈ l, c.of < 3) : AFn Tryz.prog 42 [dint t, ncs l] (Ret (.tup [u64 (roomV t l), dint (fitsE t l)])) := by
  by_cases hf : fitsE t l = 0
  · have hm : mayE t l = 0 := by unfold fitsE at hf; split at hf; contradiction; rename_i h; simpa using h
    have ht : ∃ n : Nat, t = (n : Int) ∧ n ≤ 65536 ∧ 0 < n := ⟨t.toNat, by unfold mayE at hm; split at hm; cases hm; omega⟩
    obtain ⟨n, rfl, hn, hn0⟩ := ht
    have hfl : sumG (fun c => c.b) l * n ≤ 65536 := by
      unfold fitsE at hf
      rw [if_neg (by simpa using hm)] at hf
      split at hf
      · cases hf
      · rename_i h; unfold fullB at h; simp only [decide_eq_true_eq, Int.toNat_natCast] at h; omega
    have e0 : (fitsE n l != 0) = false := by rw [hf]; rfl
    have e : roomV n l = (65536 - sumG (fun c => c.b) l * n) / n := by rw [roomV, if_pos hf]; rfl
    have hre := rest_ok (sumG (fun c => c.b) l) n 1 (slope_lt hl hc) hn hn0 (by decide) (by decide) (by omega)
    rw [Nat.mul_one, Nat.mul_one] at hre
    rw [e]
    refine AFn_hxk 0 cx_ok 200 Tryz.func42 rfl Tryz.ntmps42 Tryz.results42 rfl fun base w hb => ?_
    simp only [go_sem, Nat.reduceAdd, Nat.reduceSub, Nat.reduceMul, Nat.reduceBEq, Nat.reduceLT, Nat.reduceLeDiff, Nat.reduceEqDiff, Int.reduceToNat, Int.reduceLE, Int.reduceLT, Int.reduceAdd, Int.reduceSub, Int.reduceNeg, Int.reduceBEq, Int.reduceBNe, Nat.reduceBNe, Nat.reduceDiv, Nat.reduceMod]
    refine kont_call hb fn44 rfl ?_ (fits0_ok n l hl hc hk) (Ret.flat rfl) rfl fun d h hR => ?_
    · simp only [go_sem, Nat.reduceAdd, Nat.reduceSub, Nat.reduceMul, Nat.reduceBEq, Nat.reduceLT, Nat.reduceLeDiff, Nat.reduceEqDiff, Int.reduceToNat, Int.reduceLE, Int.reduceLT, Int.reduceAdd, Int.reduceSub, Int.reduceNeg, Int.reduceBEq, Int.reduceBNe, Nat.reduceBNe, Nat.reduceDiv, Nat.reduceMod, e0]
    obtain ⟨rfl, rfl⟩ := hR
    refine kont_of_hx cx_ok hb 200 ?_
    simp only [go_sem, Nat.reduceAdd, Nat.reduceSub, Nat.reduceMul, Nat.reduceBEq, Nat.reduceLT, Nat.reduceLeDiff, Nat.reduceEqDiff, Int.reduceToNat, Int.reduceLE, Int.reduceLT, Int.reduceAdd, Int.reduceSub, Int.reduceNeg, Int.reduceBEq, Int.reduceBNe, Nat.reduceBNe, Nat.reduceDiv, Nat.reduceMod, e0]
    refine kont_call hb fn78 rfl ?_ (sslope_ok l hl hc) (Ret.flat rfl) rfl fun d h hR => ?_
    · simp only [go_sem, Nat.reduceAdd, Nat.reduceSub, Nat.reduceMul, Nat.reduceBEq, Nat.reduceLT, Nat.reduceLeDiff, Nat.reduceEqDiff, Int.reduceToNat, Int.reduceLE, Int.reduceLT, Int.reduceAdd, Int.reduceSub, Int.reduceNeg, Int.reduceBEq, Int.reduceBNe, Nat.reduceBNe, Nat.reduceDiv, Nat.reduceMod]
    obtain ⟨rfl, rfl⟩ := hR
    refine kont_of_hx cx_ok hb 200 ?_
    simp only [go_sem, Nat.reduceAdd, Nat.reduceSub, Nat.reduceMul, Nat.reduceBEq, Nat.reduceLT, Nat.reduceLeDiff, Nat.reduceEqDiff, Int.reduceToNat, Int.reduceLE, Int.reduceLT, Int.reduceAdd, Int.reduceSub, Int.reduceNeg, Int.reduceBEq, Int.reduceBNe, Nat.reduceBNe, Nat.reduceDiv, Nat.reduceMod]
    refine kont_call hb fn77 rfl ?_ hre (Ret.flat rfl) rfl fun d h hR => ?_
    · simp only [go_sem, Nat.reduceAdd, Nat.reduceSub, Nat.reduceMul, Nat.reduceBEq, Nat.reduceLT, Nat.reduceLeDiff, Nat.reduceEqDiff, Int.reduceToNat, Int.reduceLE, Int.reduceLT, Int.reduceAdd, Int.reduceSub, Int.reduceNeg, Int.reduceBEq, Int.reduceBNe, Nat.reduceBNe, Nat.reduceDiv, Nat.reduceMod]
    obtain ⟨rfl, rfl⟩ := hR
    refine kont_of_hx cx_ok hb 200 ?_
    simp only [go_sem, Nat.reduceAdd, Nat.reduceSub, Nat.reduceMul, Nat.reduceBEq, Nat.reduceLT, Nat.reduceLeDiff, Nat.reduceEqDiff, Int.reduceToNat, Int.reduceLE, Int.reduceLT, Int.reduceAdd, Int.reduceSub, Int.reduceNeg, Int.reduceBEq, Int.reduceBNe, Nat.reduceBNe, Nat.reduceDiv, Nat.reduceMod]
    refine kont_call hb fn79 rfl ?_ (knees0_ok l hl hk) (Ret.flat rfl) rfl fun d h hR => ?_
    · simp only [go_sem, Nat.reduceAdd, Nat.reduceSub, Nat.reduceMul, Nat.reduceBEq, Nat.reduceLT, Nat.reduceLeDiff, Nat.reduceEqDiff, Int.reduceToNat, Int.reduceLE, Int.reduceLT, Int.reduceAdd, Int.reduceSub, Int.reduceNeg, Int.reduceBEq, Int.reduceBNe, Nat.reduceBNe, Nat.reduceDiv, Nat.reduceMod]
    obtain ⟨rfl, rfl⟩ := hR
    refine kont_of_hx cx_ok hb 200 ?_
    simp only [go_sem, Nat.reduceAdd, Nat.reduceSub, Nat.reduceMul, Nat.reduceBEq, Nat.reduceLT, Nat.reduceLeDiff, Nat.reduceEqDiff, Int.reduceToNat, Int.reduceLE, Int.reduceLT, Int.reduceAdd, Int.reduceSub, Int.reduceNeg, Int.reduceBEq, Int.reduceBNe, Nat.reduceBNe, Nat.reduceDiv, Nat.reduceMod]
    refine kont_for (fun i s => s = ⟨[(7, u64 ((65536 - sumG (fun c => c.b) l * n) / n)), (22, dint 0), (23, dint 0)], []⟩) 0 (Weak.frame (by simp only [go_sem, Nat.reduceAdd, Nat.reduceSub, Nat.reduceMul, Nat.reduceBEq, Nat.reduceLT, Nat.reduceLeDiff, Nat.reduceEqDiff, Int.reduceToNat, Int.reduceLE, Int.reduceLT, Int.reduceAdd, Int.reduceSub, Int.reduceNeg, Int.reduceBEq, Int.reduceBNe, Nat.reduceBNe, Nat.reduceDiv, Nat.reduceMod])) rfl ?_
    rintro i s hi rfl
    refine kont_of_hx cx_ok hb 200 ?_
    simp only [go_sem, Nat.reduceAdd, Nat.reduceSub, Nat.reduceMul, Nat.reduceBEq, Nat.reduceLT, Nat.reduceLeDiff, Nat.reduceEqDiff, Int.reduceToNat, Int.reduceLE, Int.reduceLT, Int.reduceAdd, Int.reduceSub, Int.reduceNeg, Int.reduceBEq, Int.reduceBNe, Nat.reduceBNe, Nat.reduceDiv, Nat.reduceMod]
    rw [hf]
    refine kont_of_hx cx_ok hb 200 ?_
    simp only [go_sem, Nat.reduceAdd, Nat.reduceSub, Nat.reduceMul, Nat.reduceBEq, Nat.reduceLT, Nat.reduceLeDiff, Nat.reduceEqDiff, Int.reduceToNat, Int.reduceLE, Int.reduceLT, Int.reduceAdd, Int.reduceSub, Int.reduceNeg, Int.reduceBEq, Int.reduceBNe, Nat.reduceBNe, Nat.reduceDiv, Nat.reduceMod]
  · have e0 : (fitsE t l != 0) = true := by simpa using hf
    have e : roomV t l = 0 := by rw [roomV, if_neg hf]
    rw [e]
    refine AFn_hxk 0 cx_ok 200 Tryz.func42 rfl Tryz.ntmps42 Tryz.results42 rfl fun base w hb => ?_
    simp only [go_sem, Nat.reduceAdd, Nat.reduceSub, Nat.reduceMul, Nat.reduceBEq, Nat.reduceLT, Nat.reduceLeDiff, Nat.reduceEqDiff, Int.reduceToNat, Int.reduceLE, Int.reduceLT, Int.reduceAdd, Int.reduceSub, Int.reduceNeg, Int.reduceBEq, Int.reduceBNe, Nat.reduceBNe, Nat.reduceDiv, Nat.reduceMod]
    refine kont_call hb fn44 rfl ?_ (fits0_ok t l hl hc hk) (Ret.flat rfl) rfl fun d h hR => ?_
    · simp only [go_sem, Nat.reduceAdd, Nat.reduceSub, Nat.reduceMul, Nat.reduceBEq, Nat.reduceLT, Nat.reduceLeDiff, Nat.reduceEqDiff, Int.reduceToNat, Int.reduceLE, Int.reduceLT, Int.reduceAdd, Int.reduceSub, Int.reduceNeg, Int.reduceBEq, Int.reduceBNe, Nat.reduceBNe, Nat.reduceDiv, Nat.reduceMod, e0]
    obtain ⟨rfl, rfl⟩ := hR
    refine kont_of_hx cx_ok hb 200 ?_
    simp only [go_sem, Nat.reduceAdd, Nat.reduceSub, Nat.reduceMul, Nat.reduceBEq, Nat.reduceLT, Nat.reduceLeDiff, Nat.reduceEqDiff, Int.reduceToNat, Int.reduceLE, Int.reduceLT, Int.reduceAdd, Int.reduceSub, Int.reduceNeg, Int.reduceBEq, Int.reduceBNe, Nat.reduceBNe, Nat.reduceDiv, Nat.reduceMod, e0]
end Go.Fg.X
namespace Go.Fg
set_option linter.unusedSimpArgs false
set_option linter.unusedVariables false
open Go.RowKit (Below)
def clearRow (off len : Nat) (zs : List D) (row : Nat → List D) : Nat → List D := fun k => bif Nat.ble off k && Nat.blt k (off + len) then zs else row k
theorem clearRow_lt {off len k : Nat} {zs : List D} {row : Nat → List D} (h : k < off) : clearRow off len zs row k = row k := by
  have : Nat.ble off k = false := by rw [← Bool.not_eq_true, Nat.ble_eq]; omega
  simp [clearRow, this]
section
variable {P : Program} {L : Lay} {base nt : Nat} {s : St} {o : Oper}
theorem clear_ok (hL : LayOk P L) {t e : TypeId} {x : Operand} {l g off len a b c : Nat} {z : Value} {zt : List Value} {ob : Ob} (ho : o.op = .call ⟨.builtin .clear, #[x], #[t]⟩) (hx : evalO s.fr x = .ref l g off len) (hob : s.h[l]? = some ob)
    (hk : ob.kd.isOne = false) (hg : ob.gen = g) (hs : ob.sz = 1) (hro : ob.kd.ro = false) (hn : off + len ≤ ob.n) (ht : ty L t = some ⟨.slice e, a, b, zt⟩) {k : TK} (he : ty L e = some ⟨k, 1, c, [z]⟩) (hz : oneV z = true) :
    EffOk P base nt o s (s.h.set l ⟨ob.kd, ob.gen, ob.sz, ob.n, clearRow off len [ofCell z] ob.row⟩) (.tup []) := by
  refine EffOk0.up ?_ (by simp [calm, ho])
  intro Z pl ac w r hbs
  have hv := r.eval x
  rw [hx] at hv
  obtain ⟨o', p', ad, cap, hvv, ho', hp', hk', hg', hat⟩ := inv_ref hv
  rw [hob] at ho'; cases ho'
  have hy := hL _ _ ht
  have hye := hL _ _ he
  have hu : P.underlying t = some (.slice e) := under_slice hy rfl
  obtain ⟨zv, hzz, hzr⟩ := hye.zeroValue
  have hzc : zv.cells = #[z] := by apply Array.toList_inj.1; rw [hzz]
  have hzl : (Builtin.zeroCells zv.cells len).toList = List.replicate len z := by
    rw [hzc]
    simp [Builtin.zeroCells]
    apply List.ext_getElem
    · simp
    · intro i h1 h2
      simp [Nat.mod_one]
  have hrz : ∀ Z' h' pl' w', RelV Z' h' pl' w' (ofCell z) z := fun Z' h' pl' w' =>
    .cl _ _ (cl_ofCell _ _ _)
  rcases hat hg.symm with ⟨hl0, hc0⟩ | ⟨bb, q, c0, el, hpp, haa, hb0, hsz0, hlc⟩
  · subst hl0
    have hrow : ∀ i, clearRow off 0 [ofCell z] ob.row i = ob.row i := fun i => by
      unfold clearRow
      cases h1 : Nat.ble off i && Nat.blt i (off + 0)
      · rfl
      · simp at h1; omega
    have hset : s.h.set l ⟨ob.kd, ob.gen, ob.sz, ob.n, clearRow off 0 [ofCell z] ob.row⟩ = s.h := by
      have e1 : (⟨ob.kd, ob.gen, ob.sz, ob.n, clearRow off 0 [ofCell z] ob.row⟩ : Ob) = ob := by rw [funext hrow]
      rw [e1]
      exact List.ext_getElem? fun i => by
        by_cases h : l = i
        · subst h; rw [List.getElem?_set_self (lt_of_some hob), hob]
        · rw [List.getElem?_set_ne h]
    rw [hset]
    refine ⟨.tuple #[], w, pl, .inl ?_, Tr.refl _ _ _, r.o, .tup [] [] rfl (fun i hi => absurd hi (Nat.not_lt_zero i)), Below.refl _ _⟩
    subst hc0
    cases ad <;> simp [execOp, ho, hvv, resolve, invoke, Go.builtin, Builtin.clear_, run_underlying hu]
  · subst hpp
    obtain ⟨hbase, xx⟩ := r.o.at_ l ob bb q hob hp'
    obtain ⟨c1, el1, hb, hcsz, hrl, hrow⟩ := xx.cells hk'
    rw [hb] at hb0; cases hb0
    have hkd : ∀ c2 : Nat → List D, (⟨ob.kd, ob.gen, ob.sz, ob.n, c2⟩ : Ob).kd = ob.kd := fun _ => rfl
    obtain ⟨w', c', g1, g2, g3, g4, g5, g6, g7, g8, g9⟩ := run_storeCells (P := P) bb el (List.replicate len z) 0 (q + off * ob.sz) w c0 hb (by simp; rw [hs] at hcsz ⊢; omega) (fun k hk => by
      have hk2 : k < len := by simpa using hk
      have : nthV (List.replicate len z) k = z := by simp [nthV, List.getD_eq_getElem?_getD, hk2]
      rw [this]; exact hz)
    have T : Tr s.h pl w (s.h.set l ⟨ob.kd, ob.gen, ob.sz, ob.n, clearRow off len [ofCell z] ob.row⟩) pl w' := Tr.upd r.o hob hp' rfl rfl rfl (fun k hk _ => g5 k hk) (fun c2 el2 e2 => by rw [hb] at e2; cases e2; exact ⟨c', g2, g3⟩)
    refine ⟨.tuple #[], w', pl, .inl ?_, T, ?_, .tup [] [] rfl (fun i hi => absurd hi (Nat.not_lt_zero i)), below_of (hbase hro) g5 g6 g7 g8 g9⟩
    · subst haa
      by_cases hl0 : len = 0
      · subst hl0
        have e1 : w' = w := by
          have : (storeCells ⟨bb, q + off * ob.sz, none⟩ (List.replicate 0 z) 0).run P w = .ok () w := by simp [storeCells]
          rw [g1] at this; cases this; rfl
        rw [e1]
        simp [execOp, ho, hvv, resolve, invoke, Go.builtin, Builtin.clear_, run_underlying hu]
      · obtain ⟨m, rfl⟩ : ∃ m, len = m + 1 := ⟨len - 1, by omega⟩
        simp [execOp, ho, hvv, resolve, invoke, Go.builtin, Builtin.clear_, run_underlying hu, hzr, hzl, g1]
    · refine RelO.upd (hro := rfl) r.o hob hp' hk' hk' rfl rfl (fun k hk _ => g5 k hk) hb g2 g3 (by rw [g3]; exact hcsz) (fun k hk => ?_) (fun k m hk hm => ?_)
      · show (clearRow off len [ofCell z] ob.row k).length = ob.sz
        unfold clearRow
        cases Nat.ble off k && Nat.blt k (off + len)
        · exact hrl k hk
        · simp [hs]
      · have hk2 : k < ob.n := hk
        have hm2 : m < ob.sz := hm
        show ∃ v, c'[q + (k * ob.sz + m)]? = some v ∧ RelV Z _ pl w' (nth (clearRow off len [ofCell z] ob.row k) m) v
        rw [hs] at hm2
        have hm0 : m = 0 := by omega
        subst hm0
        have hidx : k * ob.sz + 0 = k := by rw [hs]; omega
        have hidx2 : q + off * ob.sz + 0 = q + off := by rw [hs]; omega
        rw [g4, hidx, hidx2]
        simp only [List.length_replicate]
        by_cases hin : off ≤ k ∧ k < off + len
        · rw [if_pos (by omega)]
          have e1 : clearRow off len [ofCell z] ob.row k = [ofCell z] := by simp [clearRow, nat_ble, nat_blt, hin.1, hin.2]
          rw [e1]
          exact ⟨z, by rw [List.getElem?_replicate, if_pos (by omega)], hrz _ _ _ _⟩
        · rw [if_neg (by omega)]
          have e1 : clearRow off len [ofCell z] ob.row k = ob.row k := by
            unfold clearRow
            cases h : (Nat.ble off k && Nat.blt k (off + len))
            · rfl
            · simp at h; omega
          rw [e1]
          obtain ⟨v, hv1, hr1⟩ := hrow k 0 hk2 (by omega)
          rw [hidx] at hv1
          exact ⟨v, hv1, hr1.tr T⟩
end
section
variable {P : Program} {L : Lay} {base nt : Nat} {w0 : Start} {Q : Exit → St → Prop}
/-- The rule. -/
theorem kont_clear (hL : LayOk P L) (hb : base ≤ w0.w.heap.size) {k : List Item} {dst : Option Nat} {tyd : TypeId} {pos : String} {after : Array Edge} {gd : Option (Nat × Bool)} {r : List (Oper × G)} {s : St} {t e : TypeId} {x : Operand} {l g off len a b c : Nat} {z : Value} {zt : List Value} {ob : Ob}
    (hx : evalO s.fr x = .ref l g off len) (hob : s.h[l]? = some ob)
    (hk : ob.kd.isOne = false) (hg : ob.gen = g) (hs : ob.sz = 1) (hro : ob.kd.ro = false) (hn : off + len ≤ ob.n) (ht : ty L t = some ⟨.slice e, a, b, zt⟩) {tk : TK} (he : ty L e = some ⟨tk, 1, c, [z]⟩) (hz : oneV z = true) (hd : okO nt dst = true)
    (h1 : kont P base nt w0 Q (.ops r :: k) .normal ⟨putO s.fr dst (.tup []), s.h.set l ⟨ob.kd, ob.gen, ob.sz, ob.n, clearRow off len [ofCell z] ob.row⟩⟩) :
    kont P base nt w0 Q (.ops ((⟨dst, .call ⟨.builtin .clear, #[x], #[t]⟩, tyd, pos, after, gd⟩, none) :: r) :: k) .normal s := by
  simp only [kont] at h1 ⊢
  exact AG_eff hb (clear_ok hL rfl hx hob hk hg hs hro hn ht he hz) hd h1
end
end Go.Fg
namespace Go.Fg
set_option linter.unusedSimpArgs false
set_option linter.unusedVariables false
open Go.RowKit (Below)
theorem MFn.cut {P : Program} {f : FuncId} {F : List Ob} {args : List D} {R R' : D → List Ob → Prop} (hf : MFn P f F args R)
    (hr : ∀ d h, R d h → ∃ l o n', h[l]? = some o ∧ o.kd.ty = 0 ∧ n' ≤ o.n ∧ R' d (h.set l ⟨o.kd, o.gen, o.sz, n', o.row⟩)) : MFn P f F args R' := by
  intro Z base w pl vs h1 h2 h3 hl hc
  refine (hf Z base w pl vs h1 h2 h3 hl hc).mono fun e w' he => ?_
  obtain ⟨v, d, h, pl', rfl, hR, hO, hV, hT, hB⟩ := he
  obtain ⟨l, o, n', ho, hk, hn, hR'⟩ := hr _ _ hR
  have hl := lt_of_some ho
  have key : ∀ (x : Nat) (u : Ob), h[x]? = some u → ∃ u', (h.set l ⟨o.kd, o.gen, o.sz, n', o.row⟩)[x]? = some u' ∧ u'.gen = u.gen ∧ u'.sz = u.sz ∧ u'.kd.ty = u.kd.ty := fun x u e => by
    by_cases hx : l = x
    · subst hx
      rw [ho] at e; cases e
      exact ⟨_, List.getElem?_set_self hl, rfl, rfl, rfl⟩
    · exact ⟨u, by rw [List.getElem?_set_ne hx]; exact e, rfl, rfl, rfl⟩
  refine ⟨v, d, _, pl', rfl, hR', ⟨by simp [hO.len], hO.inj, fun x u e ep => ?_, fun x u b q e ep => ?_⟩, hV.kds key, ⟨hT.old, fun x u p e ep => ?_, fun x u u' b q e e' hg ep c el hc => ?_⟩, hB⟩
  · by_cases hx : l = x
    · subst hx
      rw [List.getElem?_set_self hl] at e; cases e
      have := hO.noRow l o ho ep
      show n' = 0
      omega
    · rw [List.getElem?_set_ne hx] at e
      exact hO.noRow x u e ep
  · by_cases hx : l = x
    · subst hx
      rw [List.getElem?_set_self hl] at e; cases e
      obtain ⟨g1, xx⟩ := hO.at_ l o b q ho ep
      obtain ⟨c, el, c1, c2, c3, c4⟩ := xx.cells hk
      refine ⟨g1, .ofCells hk ⟨c, el, c1, ?_, fun i hi => c3 i (Nat.lt_of_lt_of_le hi hn), fun i j hi hj => ?_⟩⟩
      · have := Nat.mul_le_mul_right o.sz hn
        show q + n' * o.sz ≤ c.size
        omega
      · obtain ⟨u, hu, hr⟩ := c4 i j (Nat.lt_of_lt_of_le hi hn) hj
        exact ⟨u, hu, hr.kds key⟩
    · rw [List.getElem?_set_ne hx] at e
      obtain ⟨g1, xx⟩ := hO.at_ x u b q e ep
      exact ⟨g1, xx.to rfl rfl rfl rfl (fun _ _ => rfl) fun i j v _ _ hr => hr.kds key⟩
  · obtain ⟨u', p', a1, a2, a3, a4, a5⟩ := hT.obj x u p e ep
    obtain ⟨u2, b1, b2, b3, b4⟩ := key x u' a1
    exact ⟨u2, p', b1, a2, by omega, by rw [b4, a4], fun hh => by rw [b3]; exact a5 (by omega)⟩
  · obtain ⟨u1, p', a1, a2, a3, a4, a5⟩ := hT.obj x u _ e ep
    obtain ⟨u2, b1, b2, b3, b4⟩ := key x u1 a1
    rw [e'] at b1; cases b1
    exact hT.shape x u u1 b q e a1 (by omega) ep c el hc
end Go.Fg
namespace Go.Fg
set_option linter.unusedSimpArgs false
set_option linter.unusedVariables false
open Go.RowKit (Below)
section
variable {P : Program} {L : Lay} {base nt : Nat} {s : St} {o : Oper}
theorem cap_nil_ok (hL : LayOk P L) {t : TypeId} {x : Operand} (ho : o.op = .call ⟨.builtin .cap, #[x], #[t]⟩) (hx : evalO s.fr x = .nil) {e a b : Nat} {zt : List Value} (ht : ty L t = some ⟨.slice e, a, b, zt⟩) : PureOk P base nt o s (.raw (.int .i64 0)) := by
  intro Z pl ac w r
  have hr := r.eval x
  rw [hx] at hr
  obtain ⟨a0, hv⟩ := inv_nil hr
  refine ⟨_, .cl _ _ (.raw _), fun w' _ => ?_⟩
  rw [run_builtin ho]
  simp [builtin, hv, Builtin.cap_, run_underlying (under_slice (hL _ _ ht) rfl), goInt]
theorem run_append_zeros {t ti e : TypeId} {ty0 : TypeId} {y : Ty} {k kn : IntKind} (ht : P.underlying t = some (.slice e)) (hti : P.underlying ti = some (.int kn)) (hy : TyOk P e y) (hz : y.zero.length = y.size) (hs : 0 < y.size) (w : World) (b : Option Addr) (n : Nat)
    (h0 : 0 < n) (h63 : n ≤ 4294967296) (hby : y.bytes ≤ 1024) :
    ∃ cap' rest, (Builtin.append_ #[t, ti] ty0 #[.slice b 0 0, .int k n]).run P w = .ok (.slice (some ⟨w.heap.size, 0, none⟩) n cap') (w.drew.alloc (.cells ((flat n y.size fun _ j => nthV y.zero j).toArray ++ rest) e)) ∧ n ≤ cap' ∧ rest.size = (cap' - n) * y.size := by
  obtain ⟨z, hzz, hzr⟩ := hy.zeroValue
  obtain ⟨i, hi, hi1, hi2⟩ := hy.typeInfo w
  have hi' : ∀ w, (typeInfo e).run P w = .ok i w := fun w => by
    have h4 := hy.info
    cases hx : P.info? e with
    | none => rw [hx] at h4; cases h4
    | some k =>
      simp [typeInfo, hx] at hi ⊢
      exact hi
  refine ⟨grownCap w n 0 e, Builtin.zeroCells z.cells (grownCap w n 0 e - n), ?_, grownCap_ge _ _ _ _, by rw [zeroCells_size]; congr 1; rw [← hz, ← hzz]; simp⟩
  have hn : ¬ n = 0 := by omega
  have hw : IntKind.i64.wrap (n : Int) = n := by rw [IntKind.wrap_i64]; omega
  have h63' : ¬ (9223372036854775807 < (n : Int)) := by omega
  have hmul : n * y.bytes ≤ 4294967296 * 1024 := Nat.mul_le_mul h63 hby
  have h48' : ¬ (281474976710656 < Builtin.nextslicecap n 0 * i.bytes) := by rw [nextslicecap_zero h0, hi2]; omega
  have h48i : ¬ (281474976710656 < (n : Int) * (i.bytes : Int)) := by
    rw [← Int.natCast_mul, hi2]
    omega
  have hneg : ¬ ((n : Int) < 0) := by omega
  have hns : ¬ (n * y.size = 0) := Nat.mul_ne_zero hn (by omega)
  have hzs : z.cells.size = y.size := by rw [← hz, ← hzz]; simp
  have hfl : (flat n y.size fun _ j => nthV y.zero j).toArray = Builtin.zeroCells z.cells n := by
    apply Array.ext
    · rw [zeroCells_size, hzs]; simp [flat_length]
    · intro j h1 h2
      simp only [List.size_toArray, flat_length] at h1
      obtain ⟨d1, d2, d3⟩ := div_lt h1
      have hz2 : y.zero = z.cells.toList := hzz.symm
      have hj : j % y.size < z.cells.size := by rw [hzs]; exact d2
      simp [flat, Builtin.zeroCells, nthV, hz2, List.getD_eq_getElem?_getD, hzs, hj]
      rw [getElem!_pos z.cells _ hj, Array.getElem?_eq_getElem hj]; rfl
  rw [hfl]
  cases b <;> simp [Builtin.append_, run_underlying ht, run_underlying hti, hy.sizeOf, hi', hzr, asInt, asIntOf, hw, hn, hneg, hns, h63', h48', h48i, Question.forced, Builtin.firstCells, loadCells, loadCellsFrom, newRow, grownCap, askRoom, mark, Sem.run]
theorem append_zeros_ok (hL : LayOk P L) {t ti e : TypeId} {x0 x : Operand} {n : Nat} {kn : IntKind} {a b c d : Nat} {zt zi : List Value} {y : Ty} {k : IntKind} (ho : o.op = .call ⟨.builtin .append, #[x0, x], #[t, ti]⟩) (hx0 : evalO s.fr x0 = .nil) (hx : evalO s.fr x = .raw (.int k n))
    (ht : ty L t = some ⟨.slice e, a, b, zt⟩) (hti : ty L ti = some ⟨.int kn, c, d, zi⟩) (hye : ty L e = some y) (hz : y.zero.length = y.size) (hs : 0 < y.size) (h0 : 0 < n) (h63 : n ≤ 4294967296) (hby : y.bytes ≤ 1024) :
    EffOk P base nt o s (s.h ++ [⟨.arr, 0, y.size, n, fun _ => y.zero.map ofCell⟩]) (.ref s.h.length 0 0 n) := by
  refine EffOk0.up ?_ (by simp [calm, ho])
  intro Z pl ac w r hbs
  have hr0 := r.eval x0
  have hrx := r.eval x
  rw [hx0] at hr0
  rw [hx] at hrx
  obtain ⟨a0, hv0⟩ := inv_nil hr0
  have hv := inv_raw hrx
  have hy := hL _ _ hye
  have hpl : pl.length = s.h.length := r.o.len
  obtain ⟨cap', rest, hrun, hcap, hrest⟩ := run_append_zeros (ty0 := o.type) (k := k) (under_slice (hL _ _ ht) rfl) (under_int (hL _ _ hti) rfl) hy hz hs w a0 n h0 h63 hby
  have e1 : ∀ b, b < w.heap.size → (w.drew.alloc (.cells ((flat n y.size fun _ j => nthV y.zero j).toArray ++ rest) e)).heap[b]? = w.heap[b]? := fun b hb => heap_push_old w.drew _ b hb
  have hnew : (w.drew.alloc (.cells ((flat n y.size fun _ j => nthV y.zero j).toArray ++ rest) e)).heap[w.heap.size]? = some (.cells ((flat n y.size fun _ j => nthV y.zero j).toArray ++ rest) e (0, 0)) := heap_alloc_new w.drew _
  have T : Tr s.h pl w (s.h ++ [⟨.arr, 0, y.size, n, fun _ => y.zero.map ofCell⟩]) (pl ++ [some (w.heap.size, 0)]) (w.drew.alloc (.cells ((flat n y.size fun _ j => nthV y.zero j).toArray ++ rest) e)) := Tr.push r.o e1 _ _ (by intro b q h; simp at h; omega)
  refine ⟨.slice (some ⟨w.heap.size, 0, none⟩) n cap', _, _, .inl ?_, T, RelO.push r.o e1 _ rfl (Nat.le_refl _) hbs hnew (by simp [flat_length]) (fun i hi => by simp [hz]) (fun i j hi hj => ⟨nthV y.zero j, ?_, ?_⟩), .ref _ _ _ _ ⟨.arr, 0, y.size, n, fun _ => y.zero.map ofCell⟩ (some (w.heap.size, 0)) _ _ (by simp) (by rw [← hpl]; simp) rfl (Nat.le_refl _) (fun _ => .inr ⟨w.heap.size, 0, _, _, rfl, by simp, hnew, ?_, hcap⟩), ((Below.refl base w).drew).alloc hbs _⟩
  · rw [run_builtin ho]
    have : (Array.map ac.eval #[x0, x]) = #[.slice a0 0 0, .int k n] := by simp [hv0, hv]
    rw [this]
    simp only [builtin, Sem.run_bind, hrun, Result.andThen_ok, Sem.run_pure]
  · have hg := flat_get (vs := fun _ j => nthV y.zero j) hi hj
    have hlt := (List.getElem?_eq_some_iff.1 hg).1
    rw [Nat.zero_add, Array.getElem?_append_left (by simpa using hlt)]
    simpa using hg
  · have hj2 : j < y.zero.length := by rw [hz]; exact hj
    have : nth (y.zero.map ofCell) j = ofCell (nthV y.zero j) := by simp [nth, nthV, List.getD_eq_getElem?_getD, hj2]
    show RelV Z _ _ _ (nth (y.zero.map ofCell) j) _
    rw [this]
    exact .cl _ _ (cl_ofCell _ _ _)
  · simp only [Nat.zero_add, Array.size_append, List.size_toArray, flat_length, hrest]
    rw [← Nat.add_mul]; exact Nat.mul_le_mul_right _ (by omega)
end
section
variable {P : Program} {L : Lay} {base nt : Nat} {w0 : Start} {Q : Exit → St → Prop}
theorem kont_cap_nil (hL : LayOk P L) {k : List Item} {dst : Option Nat} {tyd : TypeId} {pos : String} {after : Array Edge} {gd : Option (Nat × Bool)} {r : List (Oper × G)} {s : St} {t e a b : Nat} {x : Operand} {zt : List Value}
    (hx : evalO s.fr x = .nil) (ht : ty L t = some ⟨.slice e, a, b, zt⟩) (hd : okO nt dst = true) (h1 : kont P base nt w0 Q (.ops r :: k) .normal ⟨putO s.fr dst (.raw (.int .i64 0)), s.h⟩) :
    kont P base nt w0 Q (.ops ((⟨dst, .call ⟨.builtin .cap, #[x], #[t]⟩, tyd, pos, after, gd⟩, none) :: r) :: k) .normal s := by
  simp only [kont] at h1 ⊢
  exact AG_pure (cap_nil_ok hL rfl hx ht) hd h1
theorem kont_append_zeros (hL : LayOk P L) (hb : base ≤ w0.w.heap.size) {k : List Item} {dst : Option Nat} {tyd : TypeId} {pos : String} {after : Array Edge} {gd : Option (Nat × Bool)} {r : List (Oper × G)} {s : St} {t ti e : TypeId} {x0 x : Operand} {n : Nat} {kn : IntKind} {a b c d : Nat} {zt zi : List Value} {y : Ty} {ki : IntKind}
    (hx0 : evalO s.fr x0 = .nil) (hx : evalO s.fr x = .raw (.int ki n)) (ht : ty L t = some ⟨.slice e, a, b, zt⟩) (hti : ty L ti = some ⟨.int kn, c, d, zi⟩) (hye : ty L e = some y) (hz : y.zero.length = y.size) (hs : 0 < y.size) (h0 : 0 < n) (h63 : n ≤ 4294967296) (hby : y.bytes ≤ 1024) (hd : okO nt dst = true)
    (h1 : kont P base nt w0 Q (.ops r :: k) .normal ⟨putO s.fr dst (.ref s.h.length 0 0 n), s.h ++ [⟨.arr, 0, y.size, n, fun _ => y.zero.map ofCell⟩]⟩) :
    kont P base nt w0 Q (.ops ((⟨dst, .call ⟨.builtin .append, #[x0, x], #[t, ti]⟩, tyd, pos, after, gd⟩, none) :: r) :: k) .normal s := by
  simp only [kont] at h1 ⊢
  exact AG_eff hb (append_zeros_ok hL rfl hx0 hx ht hti hye hz hs h0 h63 hby) hd h1
end
end Go.Fg
namespace Go.Fg.X
open Go.Proofs Go.Fg
set_option maxRecDepth 100000
set_option maxHeartbeats 4000000
set_option linter.unusedSimpArgs false
set_option linter.unusedVariables false
theorem w642 : IntKind.i64.wrap 2 = 2 := by decide
theorem growC_ok (n : Nat) (h0 : 0 < n) (hn : n ≤ 1048576) : AFn Tryz.prog 83 [.nil, dint n] (fun d h => ∃ row, d = .ref 0 0 0 0 ∧ h = [⟨.arr, 0, 3, 0, row⟩]) := by
  have hneg : ¬ ((n : Int) < 0) := by omega
  have hpos : ((n : Int) > 0) := by omega
  have w1 : IntKind.i64.wrap (n : Int) = n := by rw [IntKind.wrap_i64]; omega
  refine MFn.cut (R := fun d h => d = .ref 0 0 0 0 ∧ h = [⟨.arr, 0, 3, n, fun _ => [u64 0, u64 0, u64 0]⟩]) ?_ (by rintro d h ⟨rfl, rfl⟩; exact ⟨0, _, 0, rfl, rfl, Nat.zero_le _, _, rfl, rfl⟩)
  show AFn _ _ _ _
  refine AFn_hxk 1 cx_ok 200 Tryz.func83 rfl Tryz.ntmps83 Tryz.results83 rfl fun base w hb => ?_
  simp only [go_sem, Nat.reduceAdd, Nat.reduceSub, Nat.reduceMul, Nat.reduceBEq, Nat.reduceLT, Nat.reduceLeDiff, Nat.reduceEqDiff, Int.reduceToNat, Int.reduceLE, Int.reduceLT, Int.reduceAdd, Int.reduceSub, Int.reduceNeg, Int.reduceBEq, Int.reduceBNe, Nat.reduceBNe, Nat.reduceDiv, Nat.reduceMod]
  simp only [decide_eq_false hneg, go_sem, Nat.reduceAdd, Nat.reduceSub, Nat.reduceMul, Nat.reduceBEq, Nat.reduceLT, Nat.reduceLeDiff, Nat.reduceEqDiff, Int.reduceToNat, Int.reduceLE, Int.reduceLT, Int.reduceAdd, Int.reduceSub, Int.reduceNeg, Int.reduceBEq, Int.reduceBNe, Nat.reduceBNe, Nat.reduceDiv, Nat.reduceMod]
  refine kont_cap_nil lay_ok rfl rfl rfl ?_
  refine kont_of_hx cx_ok hb 200 ?_
  simp only [go_sem, Nat.reduceAdd, Nat.reduceSub, Nat.reduceMul, Nat.reduceBEq, Nat.reduceLT, Nat.reduceLeDiff, Nat.reduceEqDiff, Int.reduceToNat, Int.reduceLE, Int.reduceLT, Int.reduceAdd, Int.reduceSub, Int.reduceNeg, Int.reduceBEq, Int.reduceBNe, Nat.reduceBNe, Nat.reduceDiv, Nat.reduceMod, w640, Int.sub_zero, w1, decide_eq_true hpos, h0]
  refine kont_cap_nil lay_ok rfl rfl rfl ?_
  refine kont_of_hx cx_ok hb 200 ?_
  simp only [go_sem, Nat.reduceAdd, Nat.reduceSub, Nat.reduceMul, Nat.reduceBEq, Nat.reduceLT, Nat.reduceLeDiff, Nat.reduceEqDiff, Int.reduceToNat, Int.reduceLE, Int.reduceLT, Int.reduceAdd, Int.reduceSub, Int.reduceNeg, Int.reduceBEq, Int.reduceBNe, Nat.reduceBNe, Nat.reduceDiv, Nat.reduceMod]
  refine kont_append_zeros lay_ok hb rfl rfl rfl rfl rfl rfl (by decide) h0 (by omega) (by decide) rfl ?_
  refine kont_of_hx cx_ok hb 200 ?_
  simp only [go_sem, Nat.reduceAdd, Nat.reduceSub, Nat.reduceMul, Nat.reduceBEq, Nat.reduceLT, Nat.reduceLeDiff, Nat.reduceEqDiff, Int.reduceToNat, Int.reduceLE, Int.reduceLT, Int.reduceAdd, Int.reduceSub, Int.reduceNeg, Int.reduceBEq, Int.reduceBNe, Nat.reduceBNe, Nat.reduceDiv, Nat.reduceMod]
theorem like_refl (k : Kd) : k.like k := by cases k <;> simp [Kd.like]
theorem obsTell_refl : ∀ h : List Ob, obsTell h h
  | [] => trivial
  | o :: r => ⟨⟨rfl, rfl, rfl, like_refl _, fun i _ => lLeOf_refl (dLe_refl _) _⟩, obsTell_refl r⟩
theorem concat01_ok (h : List Ob) (l2 lc : Nat) (row2 rowc : Nat → List D) (c : Nc) (h2 : (h.map Ob.ro)[l2]? = some ⟨.rarr, 0, 1, 2, row2⟩) (hc : (h.map Ob.ro)[lc]? = some ⟨.rarr, 0, 3, 1, rowc⟩) (e0 : row2 0 = [.nil]) (e1 : row2 1 = [.ref lc 0 0 1]) (ec : rowc 0 = c.cells) :
    RFn Tryz.prog 45 h [.ref l2 0 0 2] (fun d g => ∃ gn row, d = .ref h.length gn 0 1 ∧ g = [⟨.arr, gn, 3, 1, row⟩] ∧ row 0 = c.cells) := by
  refine RFn_hx cx_ok 200 Tryz.func45 rfl Tryz.ntmps45 Tryz.results45 rfl fun base w pl F hF hFl hb => ?_
  rw [← hF] at h2 hc
  have h2_l := hlt h2
  have hc_l := hlt hc
  simp only [go_sem, Nat.reduceAdd, Nat.reduceSub, Nat.reduceMul, Nat.reduceBEq, Nat.reduceLT, Nat.reduceLeDiff, Nat.reduceEqDiff, Int.reduceToNat, Int.reduceLE, Int.reduceLT, Int.reduceAdd, Int.reduceSub, Int.reduceNeg, Int.reduceBEq, Int.reduceBNe, Nat.reduceBNe, Nat.reduceDiv, Nat.reduceMod, hgetA, hgetL, hgetLk, hsetA, hsetL, hsetLk, List.length_append, List.length_set, List.append_assoc, List.set_set, h2, h2_l, hc, hc_l]
  obtain ⟨sz, hs0, hs1, hs2⟩ : ∃ sz : Nat → Int, sz 0 = 0 ∧ sz 1 = 0 ∧ sz 2 = 1 := ⟨fun i => if i = 2 then 1 else 0, rfl, rfl, rfl⟩
  refine kont_for (fun i s => s = ⟨[(0, .ref l2 0 0 2), (3, .raw (.int .i64 (sz i))), (9, .ref l2 0 0 2), (10, dint 2), (11, dint i)], F⟩) 2 (Weak.frame (by simp only [go_sem, Nat.reduceAdd, Nat.reduceSub, Nat.reduceMul, Nat.reduceBEq, Nat.reduceLT, Nat.reduceLeDiff, Nat.reduceEqDiff, Int.reduceToNat, Int.reduceLE, Int.reduceLT, Int.reduceAdd, Int.reduceSub, Int.reduceNeg, Int.reduceBEq, Int.reduceBNe, Nat.reduceBNe, Nat.reduceDiv, Nat.reduceMod, hs0])) rfl ?_
  rintro i s hi rfl
  have hi3 : i = 0 ∨ i = 1 ∨ i = 2 := by omega
  rcases hi3 with rfl | rfl | rfl
  · refine kont_of_hx cx_ok hb 200 ?_
    simp only [go_sem, Nat.reduceAdd, Nat.reduceSub, Nat.reduceMul, Nat.reduceBEq, Nat.reduceLT, Nat.reduceLeDiff, Nat.reduceEqDiff, Int.reduceToNat, Int.reduceLE, Int.reduceLT, Int.reduceAdd, Int.reduceSub, Int.reduceNeg, Int.reduceBEq, Int.reduceBNe, Nat.reduceBNe, Nat.reduceDiv, Nat.reduceMod, hgetA, hgetL, hgetLk, hsetA, hsetL, hsetLk, List.length_append, List.length_set, List.append_assoc, List.set_set, h2, h2_l, e0, e1, hc, hc_l, w640, w641, hs0]
    exact ⟨_, Weak.frame (fr' := [(0, .ref l2 0 0 2), (3, .raw (.int .i64 (sz 1))), (9, .ref l2 0 0 2), (10, dint 2), (11, .raw (.int .i64 1))]) (by simp only [go_sem, Nat.reduceAdd, Nat.reduceSub, Nat.reduceMul, Nat.reduceBEq, Nat.reduceLT, Nat.reduceLeDiff, Nat.reduceEqDiff, Int.reduceToNat, Int.reduceLE, Int.reduceLT, Int.reduceAdd, Int.reduceSub, Int.reduceNeg, Int.reduceBEq, Int.reduceBNe, Nat.reduceBNe, Nat.reduceDiv, Nat.reduceMod, hs1]), rfl⟩
  · refine kont_of_hx cx_ok hb 200 ?_
    simp only [go_sem, Nat.reduceAdd, Nat.reduceSub, Nat.reduceMul, Nat.reduceBEq, Nat.reduceLT, Nat.reduceLeDiff, Nat.reduceEqDiff, Int.reduceToNat, Int.reduceLE, Int.reduceLT, Int.reduceAdd, Int.reduceSub, Int.reduceNeg, Int.reduceBEq, Int.reduceBNe, Nat.reduceBNe, Nat.reduceDiv, Nat.reduceMod, hgetA, hgetL, hgetLk, hsetA, hsetL, hsetLk, List.length_append, List.length_set, List.append_assoc, List.set_set, h2, h2_l, e0, e1, hc, hc_l, w640, w641, hs1]
    exact ⟨_, Weak.frame (fr' := [(0, .ref l2 0 0 2), (3, .raw (.int .i64 (sz 2))), (9, .ref l2 0 0 2), (10, dint 2), (11, .raw (.int .i64 2))]) (by simp only [go_sem, Nat.reduceAdd, Nat.reduceSub, Nat.reduceMul, Nat.reduceBEq, Nat.reduceLT, Nat.reduceLeDiff, Nat.reduceEqDiff, Int.reduceToNat, Int.reduceLE, Int.reduceLT, Int.reduceAdd, Int.reduceSub, Int.reduceNeg, Int.reduceBEq, Int.reduceBNe, Nat.reduceBNe, Nat.reduceDiv, Nat.reduceMod, hs2, w642]), rfl⟩
  · refine kont_of_hx cx_ok hb 200 ?_
    simp only [go_sem, Nat.reduceAdd, Nat.reduceSub, Nat.reduceMul, Nat.reduceBEq, Nat.reduceLT, Nat.reduceLeDiff, Nat.reduceEqDiff, Int.reduceToNat, Int.reduceLE, Int.reduceLT, Int.reduceAdd, Int.reduceSub, Int.reduceNeg, Int.reduceBEq, Int.reduceBNe, Nat.reduceBNe, Nat.reduceDiv, Nat.reduceMod, hgetA, hgetL, hgetLk, hsetA, hsetL, hsetLk, List.length_append, List.length_set, List.append_assoc, List.set_set, h2, h2_l, e0, e1, hc, hc_l, w640, w641, hs2]
    refine kont_of_hx cx_ok hb 200 ?_
    simp only [go_sem, Nat.reduceAdd, Nat.reduceSub, Nat.reduceMul, Nat.reduceBEq, Nat.reduceLT, Nat.reduceLeDiff, Nat.reduceEqDiff, Int.reduceToNat, Int.reduceLE, Int.reduceLT, Int.reduceAdd, Int.reduceSub, Int.reduceNeg, Int.reduceBEq, Int.reduceBNe, Nat.reduceBNe, Nat.reduceDiv, Nat.reduceMod, hgetA, hgetL, hgetLk, hsetA, hsetL, hsetLk, List.length_append, List.length_set, List.append_assoc, List.set_set, h2, h2_l, e0, e1, hc, hc_l, w640, w641, hs2]
    refine kont_call hb fn83 rfl ?_ (growC_ok 1 (by decide) (by decide)) (fun d h ⟨row, h1, h2⟩ => ⟨by rw [h1]; rfl, fun o ho => by rw [h2] at ho; simp at ho; subst ho; exact fun i hi => absurd hi (Nat.not_lt_zero i)⟩) rfl fun d h' hR => ?_
    · simp only [go_sem, Nat.reduceAdd, Nat.reduceSub, Nat.reduceMul, Nat.reduceBEq, Nat.reduceLT, Nat.reduceLeDiff, Nat.reduceEqDiff, Int.reduceToNat, Int.reduceLE, Int.reduceLT, Int.reduceAdd, Int.reduceSub, Int.reduceNeg, Int.reduceBEq, Int.reduceBNe, Nat.reduceBNe, Nat.reduceDiv, Nat.reduceMod, hgetA, hgetL, hgetLk, hsetA, hsetL, hsetLk, List.length_append, List.length_set, List.append_assoc, List.set_set]
    obtain ⟨row, rfl, rfl⟩ := hR
    refine kont_of_hx cx_ok hb 200 ?_
    simp only [go_sem, Nat.reduceAdd, Nat.reduceSub, Nat.reduceMul, Nat.reduceBEq, Nat.reduceLT, Nat.reduceLeDiff, Nat.reduceEqDiff, Int.reduceToNat, Int.reduceLE, Int.reduceLT, Int.reduceAdd, Int.reduceSub, Int.reduceNeg, Int.reduceBEq, Int.reduceBNe, Nat.reduceBNe, Nat.reduceDiv, Nat.reduceMod, hgetA, hgetL, hgetLk, hsetA, hsetL, hsetLk, List.length_append, List.length_set, List.append_assoc, List.set_set, h2, h2_l]
    refine kont_for (fun i s => ∃ gn m row, (i ≤ 1 → m = 0) ∧ (i = 2 → m = 1 ∧ row 0 = c.cells) ∧ s = ⟨[(6, .ref F.length gn 0 m), (25, .ref l2 0 0 2), (26, dint 2), (27, dint i)], F ++ [⟨.arr, gn, 3, m, row⟩]⟩) 2
      (s0 := ⟨[(6, .ref F.length 0 0 0), (25, .ref l2 0 0 2), (26, dint 2), (27, dint 0)], F ++ [⟨.arr, 0, 3, 0, fun i => shiftL F.length (row i)⟩]⟩) (Weak.frame (by simp only [go_sem, Nat.reduceAdd, Nat.reduceSub, Nat.reduceMul, Nat.reduceBEq, Nat.reduceLT, Nat.reduceLeDiff, Nat.reduceEqDiff, Int.reduceToNat, Int.reduceLE, Int.reduceLT, Int.reduceAdd, Int.reduceSub, Int.reduceNeg, Int.reduceBEq, Int.reduceBNe, Nat.reduceBNe, Nat.reduceDiv, Nat.reduceMod])) ⟨0, 0, _, fun _ => rfl, fun h => absurd h (by decide), rfl⟩ ?_
    rintro i s hi ⟨gn, m, row, hm1, hm2, rfl⟩
    have hi3 : i = 0 ∨ i = 1 ∨ i = 2 := by omega
    rcases hi3 with rfl | rfl | rfl
    · obtain rfl : m = 0 := hm1 (by decide)
      refine kont_of_hx cx_ok hb 200 ?_
      simp only [go_sem, Nat.reduceAdd, Nat.reduceSub, Nat.reduceMul, Nat.reduceBEq, Nat.reduceLT, Nat.reduceLeDiff, Nat.reduceEqDiff, Int.reduceToNat, Int.reduceLE, Int.reduceLT, Int.reduceAdd, Int.reduceSub, Int.reduceNeg, Int.reduceBEq, Int.reduceBNe, Nat.reduceBNe, Nat.reduceDiv, Nat.reduceMod, hgetA, hgetL, hgetLk, hsetA, hsetL, hsetLk, List.length_append, List.length_set, List.append_assoc, List.set_set, h2, h2_l, e0, e1, hc, hc_l, w640, w641]
      refine kont_weak_ops (Weak.tell (fr' := [(25, .ref l2 0 0 2), (26, dint 2), (27, dint 0), (31, .ref F.length gn 0 0), (32, .imm 3 0 (fun _ => []))]) ⟨by simp only [go_sem, Nat.reduceAdd, Nat.reduceSub, Nat.reduceMul, Nat.reduceBEq, Nat.reduceLT, Nat.reduceLeDiff, Nat.reduceEqDiff, Int.reduceToNat, Int.reduceLE, Int.reduceLT, Int.reduceAdd, Int.reduceSub, Int.reduceNeg, Int.reduceBEq, Int.reduceBNe, Nat.reduceBNe, Nat.reduceDiv, Nat.reduceMod, frTell], obsTell_refl _⟩) ?_
      refine kont_of_hx cx_ok hb 200 ?_
      simp only [go_sem, Nat.reduceAdd, Nat.reduceSub, Nat.reduceMul, Nat.reduceBEq, Nat.reduceLT, Nat.reduceLeDiff, Nat.reduceEqDiff, Int.reduceToNat, Int.reduceLE, Int.reduceLT, Int.reduceAdd, Int.reduceSub, Int.reduceNeg, Int.reduceBEq, Int.reduceBNe, Nat.reduceBNe, Nat.reduceDiv, Nat.reduceMod, hgetA, hgetL, hgetLk, hsetA, hsetL, hsetLk, List.length_append, List.length_set, List.append_assoc, List.set_set, h2, h2_l, e0, e1, hc, hc_l, w640, w641]
      refine ⟨_, Weak.frame (fr' := [(6, .ref F.length (gn + 1) 0 0), (25, .ref l2 0 0 2), (26, dint 2), (27, .raw (.int .i64 1))]) (by simp only [go_sem, Nat.reduceAdd, Nat.reduceSub, Nat.reduceMul, Nat.reduceBEq, Nat.reduceLT, Nat.reduceLeDiff, Nat.reduceEqDiff, Int.reduceToNat, Int.reduceLE, Int.reduceLT, Int.reduceAdd, Int.reduceSub, Int.reduceNeg, Int.reduceBEq, Int.reduceBNe, Nat.reduceBNe, Nat.reduceDiv, Nat.reduceMod, w641]), _, _, _, rfl, rfl⟩
    · obtain rfl : m = 0 := hm1 (by decide)
      refine kont_of_hx cx_ok hb 200 ?_
      simp only [go_sem, Nat.reduceAdd, Nat.reduceSub, Nat.reduceMul, Nat.reduceBEq, Nat.reduceLT, Nat.reduceLeDiff, Nat.reduceEqDiff, Int.reduceToNat, Int.reduceLE, Int.reduceLT, Int.reduceAdd, Int.reduceSub, Int.reduceNeg, Int.reduceBEq, Int.reduceBNe, Nat.reduceBNe, Nat.reduceDiv, Nat.reduceMod, hgetA, hgetL, hgetLk, hsetA, hsetL, hsetLk, List.length_append, List.length_set, List.append_assoc, List.set_set, h2, h2_l, e0, e1, hc, hc_l, w640, w641]
      refine ⟨fun k hk => ?_, _, Weak.frame (fr' := [(6, .ref F.length (gn + 1) 0 1), (25, .ref l2 0 0 2), (26, dint 2), (27, .raw (.int .i64 2))]) (by simp only [go_sem, Nat.reduceAdd, Nat.reduceSub, Nat.reduceMul, Nat.reduceBEq, Nat.reduceLT, Nat.reduceLeDiff, Nat.reduceEqDiff, Int.reduceToNat, Int.reduceLE, Int.reduceLT, Int.reduceAdd, Int.reduceSub, Int.reduceNeg, Int.reduceBEq, Int.reduceBNe, Nat.reduceBNe, Nat.reduceDiv, Nat.reduceMod, w642]), _, _, _, ⟨rfl, ?_⟩, rfl⟩
      · obtain rfl : k = 0 := by omega
        rw [ec]; rfl
      · exact ec
    · obtain ⟨rfl, hr0⟩ := hm2 rfl
      refine kont_of_hx cx_ok hb 200 ?_
      simp only [go_sem, Nat.reduceAdd, Nat.reduceSub, Nat.reduceMul, Nat.reduceBEq, Nat.reduceLT, Nat.reduceLeDiff, Nat.reduceEqDiff, Int.reduceToNat, Int.reduceLE, Int.reduceLT, Int.reduceAdd, Int.reduceSub, Int.reduceNeg, Int.reduceBEq, Int.reduceBNe, Nat.reduceBNe, Nat.reduceDiv, Nat.reduceMod, hgetA, hgetL, hgetLk, hsetA, hsetL, hsetLk, List.length_append, List.length_set, List.append_assoc, List.set_set, h2, h2_l, e0, e1, hc, hc_l, w640, w641]
      refine kont_of_hx cx_ok hb 200 ?_
      simp only [go_sem, Nat.reduceAdd, Nat.reduceSub, Nat.reduceMul, Nat.reduceBEq, Nat.reduceLT, Nat.reduceLeDiff, Nat.reduceEqDiff, Int.reduceToNat, Int.reduceLE, Int.reduceLT, Int.reduceAdd, Int.reduceSub, Int.reduceNeg, Int.reduceBEq, Int.reduceBNe, Nat.reduceBNe, Nat.reduceDiv, Nat.reduceMod, hgetA, hgetL, hgetLk, hsetA, hsetL, hsetLk, List.length_append, List.length_set, List.append_assoc, List.set_set, h2, h2_l, e0, e1, hc, hc_l, w640, w641]
      exact ⟨_, rfl, gn, row, by rw [hFl], rfl, hr0⟩
end Go.Fg.X
namespace Go.Fg.X
open Go.Proofs Go.Fg
set_option maxRecDepth 100000
set_option maxHeartbeats 4000000
set_option linter.unusedSimpArgs false
set_option linter.unusedVariables false
section
variable (h : List Ob) (t m c : Nat) {es : List Ent} (T : TreeIs es [])
  (ht : (h.map Ob.ro)[t]? = some ⟨.rone, 0, 1, 1, fun _ => [.mref m 0]⟩) (hm : (h.map Ob.ro)[m]? = some (mapOb .i64 c es).ro)
include T ht hm
theorem hreals0_ok : RFn0 Tryz.prog 43 h [.ptr t 0 0 0] (fun d => d = .nil) := by
  refine RFn0_hx cx_ok 200 Tryz.func43 rfl Tryz.ntmps43 Tryz.results43 rfl fun base w pl F hF hFl hb => ?_
  rw [← hF] at ht hm
  have ht_l := hlt ht
  have hm_l := hlt hm
  simp only [go_sem, Nat.reduceAdd, Nat.reduceSub, Nat.reduceMul, Nat.reduceBEq, Nat.reduceLT, Nat.reduceLeDiff, Nat.reduceEqDiff, Int.reduceToNat, Int.reduceLE, Int.reduceLT, Int.reduceAdd, Int.reduceSub, Int.reduceNeg, Int.reduceBEq, Int.reduceBNe, Nat.reduceBNe, Nat.reduceDiv, Nat.reduceMod, hgetA, hgetL, hgetLk, hsetA, hsetL, hsetLk, List.length_append, List.length_set, List.append_assoc, List.set_set, ht, ht_l, hm, hm_l]
  have hT : Tells (F.map Ob.ro) 64 0 [] (fun x => decide (1 < ofI x.rt)) := fun h' x hx' => by
    refine RFn0_hx cx_ok 200 Tryz.func64 rfl Tryz.ntmps64 Tryz.results64 rfl fun base w pl F hF hFl hb => ?_
    simp only [go_sem, Nat.reduceAdd, Nat.reduceSub, Nat.reduceMul, Nat.reduceBEq, Nat.reduceLT, Nat.reduceLeDiff, Nat.reduceEqDiff, Int.reduceToNat, Int.reduceLE, Int.reduceLT, Int.reduceAdd, Int.reduceSub, Int.reduceNeg, Int.reduceBEq, Int.reduceBNe, Nat.reduceBNe, Nat.reduceDiv, Nat.reduceMod, hgetA, hgetL, hgetLk, hsetA, hsetL, hsetLk, List.length_append, List.length_set, List.append_assoc, List.set_set]
    refine kont_call hb fn66 rfl ?_ (shas_ok x.rt) (Ret.flat rfl) rfl fun d h hR => ?_
    · simp only [go_sem, Nat.reduceAdd, Nat.reduceSub, Nat.reduceMul, Nat.reduceBEq, Nat.reduceLT, Nat.reduceLeDiff, Nat.reduceEqDiff, Int.reduceToNat, Int.reduceLE, Int.reduceLT, Int.reduceAdd, Int.reduceSub, Int.reduceNeg, Int.reduceBEq, Int.reduceBNe, Nat.reduceBNe, Nat.reduceDiv, Nat.reduceMod, hgetA, hgetL, hgetLk, hsetA, hsetL, hsetLk, List.length_append, List.length_set, List.append_assoc, List.set_set]
    obtain ⟨rfl, rfl⟩ := hR
    refine kont_of_hx cx_ok hb 200 ?_
    simp only [go_sem, Nat.reduceAdd, Nat.reduceSub, Nat.reduceMul, Nat.reduceBEq, Nat.reduceLT, Nat.reduceLeDiff, Nat.reduceEqDiff, Int.reduceToNat, Int.reduceLE, Int.reduceLT, Int.reduceAdd, Int.reduceSub, Int.reduceNeg, Int.reduceBEq, Int.reduceBNe, Nat.reduceBNe, Nat.reduceDiv, Nat.reduceMod, hgetA, hgetL, hgetLk, hsetA, hsetL, hsetLk, List.length_append, List.length_set, List.append_assoc, List.set_set]
    exact ⟨_, rfl⟩
  refine kont_callR hb fn68 rfl ?_ (hwhich_ok _ t m c T (by simp) (ro_get ht) (roro_get hm) (.raw (.func (.func 64) ⟨[]⟩ ⟨[]⟩)) 64 0 [] fn64 rfl _ hT) rfl fun d g hs => ?_
  · simp only [go_sem, Nat.reduceAdd, Nat.reduceSub, Nat.reduceMul, Nat.reduceBEq, Nat.reduceLT, Nat.reduceLeDiff, Nat.reduceEqDiff, Int.reduceToNat, Int.reduceLE, Int.reduceLT, Int.reduceAdd, Int.reduceSub, Int.reduceNeg, Int.reduceBEq, Int.reduceBNe, Nat.reduceBNe, Nat.reduceDiv, Nat.reduceMod]
  rcases hs with ⟨rfl, h3⟩ | ⟨lo, gn, off, row, rfl, hlo, ho, hr⟩
  · refine kont_of_hx cx_ok hb 200 ?_
    simp only [go_sem, Nat.reduceAdd, Nat.reduceSub, Nat.reduceMul, Nat.reduceBEq, Nat.reduceLT, Nat.reduceLeDiff, Nat.reduceEqDiff, Int.reduceToNat, Int.reduceLE, Int.reduceLT, Int.reduceAdd, Int.reduceSub, Int.reduceNeg, Int.reduceBEq, Int.reduceBNe, Nat.reduceBNe, Nat.reduceDiv, Nat.reduceMod, hgetA, hgetL, hgetLk, hsetA, hsetL, hsetLk, List.length_append, List.length_set, List.append_assoc, List.set_set]
    refine kont_for (fun i s => s = ⟨[(3, .nil), (8, dint 0), (9, dint 0)], F ++ g⟩) 0 (Weak.frame (by simp only [go_sem, Nat.reduceAdd, Nat.reduceSub, Nat.reduceMul, Nat.reduceBEq, Nat.reduceLT, Nat.reduceLeDiff, Nat.reduceEqDiff, Int.reduceToNat, Int.reduceLE, Int.reduceLT, Int.reduceAdd, Int.reduceSub, Int.reduceNeg, Int.reduceBEq, Int.reduceBNe, Nat.reduceBNe, Nat.reduceDiv, Nat.reduceMod])) rfl ?_
    rintro i s hi rfl
    refine kont_of_hx cx_ok hb 200 ?_
    simp only [go_sem, Nat.reduceAdd, Nat.reduceSub, Nat.reduceMul, Nat.reduceBEq, Nat.reduceLT, Nat.reduceLeDiff, Nat.reduceEqDiff, Int.reduceToNat, Int.reduceLE, Int.reduceLT, Int.reduceAdd, Int.reduceSub, Int.reduceNeg, Int.reduceBEq, Int.reduceBNe, Nat.reduceBNe, Nat.reduceDiv, Nat.reduceMod, hgetA, hgetL, hgetLk, hsetA, hsetL, hsetLk, List.length_append, List.length_set, List.append_assoc, List.set_set]
    refine kont_of_hx cx_ok hb 200 ?_
    simp only [go_sem, Nat.reduceAdd, Nat.reduceSub, Nat.reduceMul, Nat.reduceBEq, Nat.reduceLT, Nat.reduceLeDiff, Nat.reduceEqDiff, Int.reduceToNat, Int.reduceLE, Int.reduceLT, Int.reduceAdd, Int.reduceSub, Int.reduceNeg, Int.reduceBEq, Int.reduceBNe, Nat.reduceBNe, Nat.reduceDiv, Nat.reduceMod, hgetA, hgetL, hgetLk, hsetA, hsetL, hsetLk, List.length_append, List.length_set, List.append_assoc, List.set_set]
    exact ⟨_, rfl⟩
  · refine kont_of_hx cx_ok hb 200 ?_
    simp only [go_sem, Nat.reduceAdd, Nat.reduceSub, Nat.reduceMul, Nat.reduceBEq, Nat.reduceLT, Nat.reduceLeDiff, Nat.reduceEqDiff, Int.reduceToNat, Int.reduceLE, Int.reduceLT, Int.reduceAdd, Int.reduceSub, Int.reduceNeg, Int.reduceBEq, Int.reduceBNe, Nat.reduceBNe, Nat.reduceDiv, Nat.reduceMod, hgetA, hgetL, hgetLk, hsetA, hsetL, hsetLk, List.length_append, List.length_set, List.append_assoc, List.set_set, List.filter_nil, List.map_nil, List.length_nil]
    refine kont_for (fun i s => s = ⟨[(3, .nil), (8, dint 0), (9, dint 0)], F ++ g⟩) 0 (Weak.frame (by simp only [go_sem, Nat.reduceAdd, Nat.reduceSub, Nat.reduceMul, Nat.reduceBEq, Nat.reduceLT, Nat.reduceLeDiff, Nat.reduceEqDiff, Int.reduceToNat, Int.reduceLE, Int.reduceLT, Int.reduceAdd, Int.reduceSub, Int.reduceNeg, Int.reduceBEq, Int.reduceBNe, Nat.reduceBNe, Nat.reduceDiv, Nat.reduceMod])) rfl ?_
    rintro i s hi rfl
    refine kont_of_hx cx_ok hb 200 ?_
    simp only [go_sem, Nat.reduceAdd, Nat.reduceSub, Nat.reduceMul, Nat.reduceBEq, Nat.reduceLT, Nat.reduceLeDiff, Nat.reduceEqDiff, Int.reduceToNat, Int.reduceLE, Int.reduceLT, Int.reduceAdd, Int.reduceSub, Int.reduceNeg, Int.reduceBEq, Int.reduceBNe, Nat.reduceBNe, Nat.reduceDiv, Nat.reduceMod, hgetA, hgetL, hgetLk, hsetA, hsetL, hsetLk, List.length_append, List.length_set, List.append_assoc, List.set_set]
    refine kont_of_hx cx_ok hb 200 ?_
    simp only [go_sem, Nat.reduceAdd, Nat.reduceSub, Nat.reduceMul, Nat.reduceBEq, Nat.reduceLT, Nat.reduceLeDiff, Nat.reduceEqDiff, Int.reduceToNat, Int.reduceLE, Int.reduceLT, Int.reduceAdd, Int.reduceSub, Int.reduceNeg, Int.reduceBEq, Int.reduceBNe, Nat.reduceBNe, Nat.reduceDiv, Nat.reduceMod, hgetA, hgetL, hgetLk, hsetA, hsetL, hsetLk, List.length_append, List.length_set, List.append_assoc, List.set_set]
    exact ⟨_, rfl⟩
end
section
variable (h : List Ob) (t m c : Nat) {es : List Ent} (T : TreeIs es [])
  (ht : (h.map Ob.ro)[t]? = some ⟨.rone, 0, 1, 1, fun _ => [.mref m 0]⟩) (hm : (h.map Ob.ro)[m]? = some (mapOb .i64 c es).ro)
include T ht hm
theorem proom0_ok (n : Int) : RFn0 Tryz.prog 17 h [.ptr t 0 0 0, dint n] (fun d => d = .tup [u64 (roomV n []), dint (fitsE n [])]) := by
  have hr : AFn Tryz.prog 42 [dint n, .nil] (Ret (.tup [u64 (roomV n []), dint (fitsE n [])])) := MFn.tellArgs (room0_ok n [] (by decide) (by simp) (by simp)) ⟨dLe_refl _ _, rfl, trivial⟩
  refine RFn0_hx cx_ok 200 Tryz.func17 rfl Tryz.ntmps17 Tryz.results17 rfl fun base w pl F hF hFl hb => ?_
  rw [← hF] at ht hm
  have ht_l := hlt ht
  have hm_l := hlt hm
  simp only [go_sem, Nat.reduceAdd, Nat.reduceSub, Nat.reduceMul, Nat.reduceBEq, Nat.reduceLT, Nat.reduceLeDiff, Nat.reduceEqDiff, Int.reduceToNat, Int.reduceLE, Int.reduceLT, Int.reduceAdd, Int.reduceSub, Int.reduceNeg, Int.reduceBEq, Int.reduceBNe, Nat.reduceBNe, Nat.reduceDiv, Nat.reduceMod, hgetA, hgetL, hgetLk, hsetA, hsetL, hsetLk, List.length_append, List.length_set, List.append_assoc, List.set_set, ht, ht_l, hm, hm_l]
  refine kont_callR0 hb fn43 rfl ?_ (hreals0_ok _ t m c T (ro_get ht) (roro_get hm)) rfl fun d hR => ?_
  · simp only [go_sem, Nat.reduceAdd, Nat.reduceSub, Nat.reduceMul, Nat.reduceBEq, Nat.reduceLT, Nat.reduceLeDiff, Nat.reduceEqDiff, Int.reduceToNat, Int.reduceLE, Int.reduceLT, Int.reduceAdd, Int.reduceSub, Int.reduceNeg, Int.reduceBEq, Int.reduceBNe, Nat.reduceBNe, Nat.reduceDiv, Nat.reduceMod, hgetA, hgetL, hgetLk, hsetA, hsetL, hsetLk, List.length_append, List.length_set, List.append_assoc, List.set_set]
  subst hR
  refine kont_of_hx cx_ok hb 200 ?_
  simp only [go_sem, Nat.reduceAdd, Nat.reduceSub, Nat.reduceMul, Nat.reduceBEq, Nat.reduceLT, Nat.reduceLeDiff, Nat.reduceEqDiff, Int.reduceToNat, Int.reduceLE, Int.reduceLT, Int.reduceAdd, Int.reduceSub, Int.reduceNeg, Int.reduceBEq, Int.reduceBNe, Nat.reduceBNe, Nat.reduceDiv, Nat.reduceMod, hgetA, hgetL, hgetLk, hsetA, hsetL, hsetLk, List.length_append, List.length_set, List.append_assoc, List.set_set]
  refine kont_call hb fn42 rfl ?_ hr (Ret.flat rfl) rfl fun d h hR => ?_
  · simp only [go_sem, Nat.reduceAdd, Nat.reduceSub, Nat.reduceMul, Nat.reduceBEq, Nat.reduceLT, Nat.reduceLeDiff, Nat.reduceEqDiff, Int.reduceToNat, Int.reduceLE, Int.reduceLT, Int.reduceAdd, Int.reduceSub, Int.reduceNeg, Int.reduceBEq, Int.reduceBNe, Nat.reduceBNe, Nat.reduceDiv, Nat.reduceMod, hgetA, hgetL, hgetLk, hsetA, hsetL, hsetLk, List.length_append, List.length_set, List.append_assoc, List.set_set]
  obtain ⟨rfl, rfl⟩ := hR
  refine kont_of_hx cx_ok hb 200 ?_
  simp only [go_sem, Nat.reduceAdd, Nat.reduceSub, Nat.reduceMul, Nat.reduceBEq, Nat.reduceLT, Nat.reduceLeDiff, Nat.reduceEqDiff, Int.reduceToNat, Int.reduceLE, Int.reduceLT, Int.reduceAdd, Int.reduceSub, Int.reduceNeg, Int.reduceBEq, Int.reduceBNe, Nat.reduceBNe, Nat.reduceDiv, Nat.reduceMod, hgetA, hgetL, hgetLk, hsetA, hsetL, hsetLk, List.length_append, List.length_set, List.append_assoc, List.set_set]
  exact ⟨[], (List.append_nil F).symm⟩
theorem padmits0_ok (n : Int) (x : Nc) (hx : x.Lt) (hk : x.of < 3) : RFn0 Tryz.prog 18 h [.ptr t 0 0 0, dint n, dnc x] (fun d => d = dbool (fitsE n [x] == 0)) := by
  have hfi := fits0_ok n [x] (by simp) (by simpa using hx) (by simpa using hk)
  refine RFn0_hx cx_ok 200 Tryz.func18 rfl Tryz.ntmps18 Tryz.results18 rfl fun base w pl F hF hFl hb => ?_
  rw [← hF] at ht hm
  have ht_l := hlt ht
  have hm_l := hlt hm
  simp only [go_sem, Nat.reduceAdd, Nat.reduceSub, Nat.reduceMul, Nat.reduceBEq, Nat.reduceLT, Nat.reduceLeDiff, Nat.reduceEqDiff, Int.reduceToNat, Int.reduceLE, Int.reduceLT, Int.reduceAdd, Int.reduceSub, Int.reduceNeg, Int.reduceBEq, Int.reduceBNe, Nat.reduceBNe, Nat.reduceDiv, Nat.reduceMod, hgetA, hgetL, hgetLk, hsetA, hsetL, hsetLk, List.length_append, List.length_set, List.append_assoc, List.set_set, ht, ht_l, hm, hm_l]
  have hx2 : ExtF F (F ++ ([⟨.one, 0, 3, 1, fun _ => x.cells⟩] : List Ob)) := ⟨_, rfl⟩
  have hH2 : ((F ++ ([⟨.one, 0, 3, 1, fun _ => x.cells⟩, ⟨.arr, 0, 3, 1, fun _ => x.cells⟩, ⟨.arr, 0, 1, 2, fun k => List.take 1 (List.drop (k * 1) [D.nil, D.ref (F.length + 1) 0 0 1])⟩] : List Ob)).map Ob.ro)[F.length + 2]? = some ⟨.rarr, 0, 1, 2, fun k => List.take 1 (List.drop (k * 1) [D.nil, D.ref (F.length + 1) 0 0 1])⟩ := ro_get (o := ⟨.arr, 0, 1, 2, fun k => List.take 1 (List.drop (k * 1) [D.nil, D.ref (F.length + 1) 0 0 1])⟩) (by rw [hgetLk rfl]; rfl)
  have hH1 : ((F ++ ([⟨.one, 0, 3, 1, fun _ => x.cells⟩, ⟨.arr, 0, 3, 1, fun _ => x.cells⟩, ⟨.arr, 0, 1, 2, fun k => List.take 1 (List.drop (k * 1) [D.nil, D.ref (F.length + 1) 0 0 1])⟩] : List Ob)).map Ob.ro)[F.length + 1]? = some ⟨.rarr, 0, 3, 1, fun _ => x.cells⟩ := ro_get (o := ⟨.arr, 0, 3, 1, fun _ => x.cells⟩) (by rw [hgetLk rfl]; rfl)
  refine kont_haxF cx_ok hb 200 mixed [(0, true), (1, true), (2, true), (3, true), (4, true), (6, true)] [5, 7, 8, 9, 10, 11, 12, 13] (by kernel_rfl) (by kernel_rfl) ?_
  simp only [go_sem, Nat.reduceAdd, Nat.reduceSub, Nat.reduceMul, Nat.reduceBEq, Nat.reduceLT, Nat.reduceLeDiff, Nat.reduceEqDiff, Int.reduceToNat, Int.reduceLE, Int.reduceLT, Int.reduceAdd, Int.reduceSub, Int.reduceNeg, Int.reduceBEq, Int.reduceBNe, Nat.reduceBNe, Nat.reduceDiv, Nat.reduceMod, hgetA, hgetL, hgetLk, hsetA, hsetL, hsetLk, List.length_append, List.length_set, List.append_assoc, List.set_set, ht, hm, bne]
  constructor
  · refine AX_callR0 hb fn43 rfl ?_ (hreals0_ok _ t m c T (ro_get (hx2.get ht)) (roro_get (hx2.get hm))) rfl fun d hR => ?_
    · simp only [go_sem, Nat.reduceAdd, Nat.reduceSub, Nat.reduceMul, Nat.reduceBEq, Nat.reduceLT, Nat.reduceLeDiff, Nat.reduceEqDiff, Int.reduceToNat, Int.reduceLE, Int.reduceLT, Int.reduceAdd, Int.reduceSub, Int.reduceNeg, Int.reduceBEq, Int.reduceBNe, Nat.reduceBNe, Nat.reduceDiv, Nat.reduceMod]
    subst hR
    refine AX_of_hax cx_ok hb ?_
    simp only [go_sem, Nat.reduceAdd, Nat.reduceSub, Nat.reduceMul, Nat.reduceBEq, Nat.reduceLT, Nat.reduceLeDiff, Nat.reduceEqDiff, Int.reduceToNat, Int.reduceLE, Int.reduceLT, Int.reduceAdd, Int.reduceSub, Int.reduceNeg, Int.reduceBEq, Int.reduceBNe, Nat.reduceBNe, Nat.reduceDiv, Nat.reduceMod, hgetA, hgetL, hgetLk, hsetA, hsetL, hsetLk, List.length_append, List.length_set, List.append_assoc, List.set_set]
    refine AX_callR hb fn45 rfl ?_ (concat01_ok (F ++ [⟨.one, 0, 3, 1, fun _ => x.cells⟩, ⟨.arr, 0, 3, 1, fun _ => x.cells⟩, ⟨.arr, 0, 1, 2, fun k => List.take 1 (List.drop (k * 1) [D.nil, D.ref (F.length + 1) 0 0 1])⟩]) (F.length + 2) (F.length + 1) (fun k => List.take 1 (List.drop (k * 1) [D.nil, D.ref (F.length + 1) 0 0 1])) (fun _ => x.cells) x hH2 hH1 rfl rfl rfl) rfl fun d g hR => ?_
    · simp only [go_sem, Nat.reduceAdd, Nat.reduceSub, Nat.reduceMul, Nat.reduceBEq, Nat.reduceLT, Nat.reduceLeDiff, Nat.reduceEqDiff, Int.reduceToNat, Int.reduceLE, Int.reduceLT, Int.reduceAdd, Int.reduceSub, Int.reduceNeg, Int.reduceBEq, Int.reduceBNe, Nat.reduceBNe, Nat.reduceDiv, Nat.reduceMod]
    obtain ⟨gn, row, rfl, rfl, hrow⟩ := hR
    refine AX_of_hax cx_ok hb ?_
    simp only [go_sem, Nat.reduceAdd, Nat.reduceSub, Nat.reduceMul, Nat.reduceBEq, Nat.reduceLT, Nat.reduceLeDiff, Nat.reduceEqDiff, Int.reduceToNat, Int.reduceLE, Int.reduceLT, Int.reduceAdd, Int.reduceSub, Int.reduceNeg, Int.reduceBEq, Int.reduceBNe, Nat.reduceBNe, Nat.reduceDiv, Nat.reduceMod, hgetA, hgetL, hgetLk, hsetA, hsetL, hsetLk, List.length_append, List.length_set, List.append_assoc, List.set_set]
    refine AX_call hb fn44 rfl ?_ hfi (Ret.flat rfl) rfl fun d h hR => ?_
    · simp only [go_sem, Nat.reduceAdd, Nat.reduceSub, Nat.reduceMul, Nat.reduceBEq, Nat.reduceLT, Nat.reduceLeDiff, Nat.reduceEqDiff, Int.reduceToNat, Int.reduceLE, Int.reduceLT, Int.reduceAdd, Int.reduceSub, Int.reduceNeg, Int.reduceBEq, Int.reduceBNe, Nat.reduceBNe, Nat.reduceDiv, Nat.reduceMod, hgetA, hgetL, hgetLk, hsetA, hsetL, hsetLk, List.length_append, List.length_set, List.append_assoc, List.set_set]
      have hrow2 : ∀ i, i < 1 → row i = x.cells := fun i hi => by
        obtain rfl : i = 0 := by omega
        exact hrow
      exact ⟨fun i hi => by (rw [hrow2 i hi]; rfl), fun i hi => by (obtain rfl : i = 0 := by omega); exact hrow⟩
    obtain ⟨rfl, rfl⟩ := hR
    refine AX_of_hax cx_ok hb ?_
    simp only [go_sem, Nat.reduceAdd, Nat.reduceSub, Nat.reduceMul, Nat.reduceBEq, Nat.reduceLT, Nat.reduceLeDiff, Nat.reduceEqDiff, Int.reduceToNat, Int.reduceLE, Int.reduceLT, Int.reduceAdd, Int.reduceSub, Int.reduceNeg, Int.reduceBEq, Int.reduceBNe, Nat.reduceBNe, Nat.reduceDiv, Nat.reduceMod, hgetA, hgetL, hgetLk, hsetA, hsetL, hsetLk, List.length_append, List.length_set, List.append_assoc, List.set_set]
    exact ⟨_, rfl⟩
  · have hx3 : ExtF F (F ++ ([⟨.one, 0, 3, 1, fun _ => x.cells⟩, ⟨.arr, 0, 3, 1, fun _ => x.cells⟩] : List Ob)) := ⟨_, rfl⟩
    refine AX_callR0 hb fn43 rfl ?_ (hreals0_ok _ t m c T (ro_get (hx3.get ht)) (roro_get (hx3.get hm))) rfl fun d hR => ?_
    · simp only [go_sem, Nat.reduceAdd, Nat.reduceSub, Nat.reduceMul, Nat.reduceBEq, Nat.reduceLT, Nat.reduceLeDiff, Nat.reduceEqDiff, Int.reduceToNat, Int.reduceLE, Int.reduceLT, Int.reduceAdd, Int.reduceSub, Int.reduceNeg, Int.reduceBEq, Int.reduceBNe, Nat.reduceBNe, Nat.reduceDiv, Nat.reduceMod]
    subst hR
    refine AX_of_hax cx_ok hb ?_
    simp only [go_sem, Nat.reduceAdd, Nat.reduceSub, Nat.reduceMul, Nat.reduceBEq, Nat.reduceLT, Nat.reduceLeDiff, Nat.reduceEqDiff, Int.reduceToNat, Int.reduceLE, Int.reduceLT, Int.reduceAdd, Int.reduceSub, Int.reduceNeg, Int.reduceBEq, Int.reduceBNe, Nat.reduceBNe, Nat.reduceDiv, Nat.reduceMod, hgetA, hgetL, hgetLk, hsetA, hsetL, hsetLk, List.length_append, List.length_set, List.append_assoc, List.set_set]
    refine AX_callR hb fn45 rfl ?_ (concat01_ok (F ++ [⟨.one, 0, 3, 1, fun _ => x.cells⟩, ⟨.arr, 0, 3, 1, fun _ => x.cells⟩, ⟨.arr, 0, 1, 2, fun k => List.take 1 (List.drop (k * 1) [D.nil, D.ref (F.length + 1) 0 0 1])⟩]) (F.length + 2) (F.length + 1) (fun k => List.take 1 (List.drop (k * 1) [D.nil, D.ref (F.length + 1) 0 0 1])) (fun _ => x.cells) x hH2 hH1 rfl rfl rfl) rfl fun d g hR => ?_
    · simp only [go_sem, Nat.reduceAdd, Nat.reduceSub, Nat.reduceMul, Nat.reduceBEq, Nat.reduceLT, Nat.reduceLeDiff, Nat.reduceEqDiff, Int.reduceToNat, Int.reduceLE, Int.reduceLT, Int.reduceAdd, Int.reduceSub, Int.reduceNeg, Int.reduceBEq, Int.reduceBNe, Nat.reduceBNe, Nat.reduceDiv, Nat.reduceMod]
    obtain ⟨gn, row, rfl, rfl, hrow⟩ := hR
    refine AX_of_hax cx_ok hb ?_
    simp only [go_sem, Nat.reduceAdd, Nat.reduceSub, Nat.reduceMul, Nat.reduceBEq, Nat.reduceLT, Nat.reduceLeDiff, Nat.reduceEqDiff, Int.reduceToNat, Int.reduceLE, Int.reduceLT, Int.reduceAdd, Int.reduceSub, Int.reduceNeg, Int.reduceBEq, Int.reduceBNe, Nat.reduceBNe, Nat.reduceDiv, Nat.reduceMod, hgetA, hgetL, hgetLk, hsetA, hsetL, hsetLk, List.length_append, List.length_set, List.append_assoc, List.set_set]
    refine AX_call hb fn44 rfl ?_ hfi (Ret.flat rfl) rfl fun d h hR => ?_
    · simp only [go_sem, Nat.reduceAdd, Nat.reduceSub, Nat.reduceMul, Nat.reduceBEq, Nat.reduceLT, Nat.reduceLeDiff, Nat.reduceEqDiff, Int.reduceToNat, Int.reduceLE, Int.reduceLT, Int.reduceAdd, Int.reduceSub, Int.reduceNeg, Int.reduceBEq, Int.reduceBNe, Nat.reduceBNe, Nat.reduceDiv, Nat.reduceMod, hgetA, hgetL, hgetLk, hsetA, hsetL, hsetLk, List.length_append, List.length_set, List.append_assoc, List.set_set]
      have hrow2 : ∀ i, i < 1 → row i = x.cells := fun i hi => by
        obtain rfl : i = 0 := by omega
        exact hrow
      exact ⟨fun i hi => by (rw [hrow2 i hi]; rfl), fun i hi => by (obtain rfl : i = 0 := by omega); exact hrow⟩
    obtain ⟨rfl, rfl⟩ := hR
    refine AX_of_hax cx_ok hb ?_
    simp only [go_sem, Nat.reduceAdd, Nat.reduceSub, Nat.reduceMul, Nat.reduceBEq, Nat.reduceLT, Nat.reduceLeDiff, Nat.reduceEqDiff, Int.reduceToNat, Int.reduceLE, Int.reduceLT, Int.reduceAdd, Int.reduceSub, Int.reduceNeg, Int.reduceBEq, Int.reduceBNe, Nat.reduceBNe, Nat.reduceDiv, Nat.reduceMod, hgetA, hgetL, hgetLk, hsetA, hsetL, hsetLk, List.length_append, List.length_set, List.append_assoc, List.set_set]
    exact ⟨_, rfl⟩
end
end Go.Fg.X
namespace Go.Fg.X.SP
open Go.Proofs Go.Fg
set_option maxRecDepth 100000
set_option linter.unusedSimpArgs false
set_option linter.unusedVariables false
theorem has_ok (l : List Int) (id : Int) (hl : l.length < 2147483648) : AFn Tryz.prog 95 [ints l, dint id] (Ret (dbool (l.contains id))) := by
  refine AFn_hxk 0 cx_ok 200 Tryz.func95 rfl Tryz.ntmps95 Tryz.results95 rfl fun base w hb => ?_
  simp only [go_sem, Nat.reduceAdd, Nat.reduceSub, Nat.reduceMul, Nat.reduceBEq, Nat.reduceLT, Nat.reduceLeDiff, Nat.reduceEqDiff, Int.reduceToNat, Int.reduceLE, Int.reduceLT, Int.reduceAdd, Int.reduceSub, Int.reduceNeg, Int.reduceBEq, Int.reduceBNe, Nat.reduceBNe, Nat.reduceDiv, Nat.reduceMod]
  refine kont_loop (fun m s => ∃ k : Nat, k + m = l.length ∧ (l.take k).contains id = false ∧ s = ⟨[(1, dint id), (7, ints l), (8, dint l.length), (9, dint k)], []⟩) l.length (s0 := ⟨[(1, dint id), (7, ints l), (8, dint l.length), (9, dint 0)], []⟩) (Weak.frame (by simp only [go_sem, Nat.reduceAdd, Nat.reduceSub, Nat.reduceMul, Nat.reduceBEq, Nat.reduceLT, Nat.reduceLeDiff, Nat.reduceEqDiff, Int.reduceToNat, Int.reduceLE, Int.reduceLT, Int.reduceAdd, Int.reduceSub, Int.reduceNeg, Int.reduceBEq, Int.reduceBNe, Nat.reduceBNe, Nat.reduceDiv, Nat.reduceMod])) ⟨0, by simp, by simp, rfl⟩ ?_
  rintro m s ⟨k, hk, hno, rfl⟩
  refine kont_of_hx cx_ok hb 200 ?_
  simp only [go_sem, Nat.reduceAdd, Nat.reduceSub, Nat.reduceMul, Nat.reduceBEq, Nat.reduceLT, Nat.reduceLeDiff, Nat.reduceEqDiff, Int.reduceToNat, Int.reduceLE, Int.reduceLT, Int.reduceAdd, Int.reduceSub, Int.reduceNeg, Int.reduceBEq, Int.reduceBNe, Nat.reduceBNe, Nat.reduceDiv, Nat.reduceMod]
  refine hite_intro (fun h => ?_) (fun h => ?_)
  · have hk1 : k < l.length := by simpa using h
    have e1 := getD_take l 0 k hk1
    simp only [go_sem, Nat.reduceAdd, Nat.reduceSub, Nat.reduceMul, Nat.reduceBEq, Nat.reduceLT, Nat.reduceLeDiff, Nat.reduceEqDiff, Int.reduceToNat, Int.reduceLE, Int.reduceLT, Int.reduceAdd, Int.reduceSub, Int.reduceNeg, Int.reduceBEq, Int.reduceBNe, Nat.reduceBNe, Nat.reduceDiv, Nat.reduceMod, hk1]
    refine hite_intro (fun h2 => ?_) (fun h2 => ?_)
    · simp only [go_sem, Nat.reduceAdd, Nat.reduceSub, Nat.reduceMul, Nat.reduceBEq, Nat.reduceLT, Nat.reduceLeDiff, Nat.reduceEqDiff, Int.reduceToNat, Int.reduceLE, Int.reduceLT, Int.reduceAdd, Int.reduceSub, Int.reduceNeg, Int.reduceBEq, Int.reduceBNe, Nat.reduceBNe, Nat.reduceDiv, Nat.reduceMod]
      have : l.contains id = true := by
        rw [← List.take_append_drop (k + 1) l, e1]; simp at h2 ⊢; simp [h2]
      rw [this]
    · simp only [go_sem, Nat.reduceAdd, Nat.reduceSub, Nat.reduceMul, Nat.reduceBEq, Nat.reduceLT, Nat.reduceLeDiff, Nat.reduceEqDiff, Int.reduceToNat, Int.reduceLE, Int.reduceLT, Int.reduceAdd, Int.reduceSub, Int.reduceNeg, Int.reduceBEq, Int.reduceBNe, Nat.reduceBNe, Nat.reduceDiv, Nat.reduceMod]
      refine ⟨m - 1, _, by omega, Weak.frame (by simp only [go_sem, Nat.reduceAdd, Nat.reduceSub, Nat.reduceMul, Nat.reduceBEq, Nat.reduceLT, Nat.reduceLeDiff, Nat.reduceEqDiff, Int.reduceToNat, Int.reduceLE, Int.reduceLT, Int.reduceAdd, Int.reduceSub, Int.reduceNeg, Int.reduceBEq, Int.reduceBNe, Nat.reduceBNe, Nat.reduceDiv, Nat.reduceMod, wrap_succ (show k < 4611686018427387904 by omega)]), k + 1, by omega, ?_, rfl⟩
      rw [e1]; simp at hno h2 ⊢; exact ⟨hno, fun e => h2 e.symm⟩
  · have hk1 : k = l.length := by simp at h; omega
    simp only [go_sem, Nat.reduceAdd, Nat.reduceSub, Nat.reduceMul, Nat.reduceBEq, Nat.reduceLT, Nat.reduceLeDiff, Nat.reduceEqDiff, Int.reduceToNat, Int.reduceLE, Int.reduceLT, Int.reduceAdd, Int.reduceSub, Int.reduceNeg, Int.reduceBEq, Int.reduceBNe, Nat.reduceBNe, Nat.reduceDiv, Nat.reduceMod]
    refine kont_of_hx cx_ok hb 200 ?_
    simp only [go_sem, Nat.reduceAdd, Nat.reduceSub, Nat.reduceMul, Nat.reduceBEq, Nat.reduceLT, Nat.reduceLeDiff, Nat.reduceEqDiff, Int.reduceToNat, Int.reduceLE, Int.reduceLT, Int.reduceAdd, Int.reduceSub, Int.reduceNeg, Int.reduceBEq, Int.reduceBNe, Nat.reduceBNe, Nat.reduceDiv, Nat.reduceMod]
    subst hk1
    simp at hno
    simp [hno]

def indexOf (l : List Int) (v : Int) : Int := if l.contains v then (l.idxOf v : Nat) else -1
theorem index_ok (l : List Int) (id : Int) (hl : l.length < 2147483648) : AFn Tryz.prog 115 [ints l, dint id] (Ret (dint (indexOf l id))) := by
  refine AFn_hxk 0 cx_ok 200 Tryz.func115 rfl Tryz.ntmps115 Tryz.results115 rfl fun base w hb => ?_
  simp only [go_sem, Nat.reduceAdd, Nat.reduceSub, Nat.reduceMul, Nat.reduceBEq, Nat.reduceLT, Nat.reduceLeDiff, Nat.reduceEqDiff, Int.reduceToNat, Int.reduceLE, Int.reduceLT, Int.reduceAdd, Int.reduceSub, Int.reduceNeg, Int.reduceBEq, Int.reduceBNe, Nat.reduceBNe, Nat.reduceDiv, Nat.reduceMod]
  refine kont_for (fun k s => (l.take k).contains id = false ∧ s = ⟨[(0, ints l), (1, dint id), (6, ints l), (7, dint l.length), (8, dint k)], []⟩) l.length (s0 := ⟨[(0, ints l), (1, dint id), (6, ints l), (7, dint l.length), (8, dint 0)], []⟩) (Weak.frame (by simp only [go_sem, Nat.reduceAdd, Nat.reduceSub, Nat.reduceMul, Nat.reduceBEq, Nat.reduceLT, Nat.reduceLeDiff, Nat.reduceEqDiff, Int.reduceToNat, Int.reduceLE, Int.reduceLT, Int.reduceAdd, Int.reduceSub, Int.reduceNeg, Int.reduceBEq, Int.reduceBNe, Nat.reduceBNe, Nat.reduceDiv, Nat.reduceMod])) ⟨by simp, rfl⟩ ?_
  rintro k s hk ⟨hno, rfl⟩
  refine kont_of_hx cx_ok hb 200 ?_
  simp only [go_sem, Nat.reduceAdd, Nat.reduceSub, Nat.reduceMul, Nat.reduceBEq, Nat.reduceLT, Nat.reduceLeDiff, Nat.reduceEqDiff, Int.reduceToNat, Int.reduceLE, Int.reduceLT, Int.reduceAdd, Int.reduceSub, Int.reduceNeg, Int.reduceBEq, Int.reduceBNe, Nat.reduceBNe, Nat.reduceDiv, Nat.reduceMod]
  refine hite_intro (fun h => ?_) (fun h => ?_)
  · have hk1 : k < l.length := by simpa using h
    have e1 := getD_take l 0 k hk1
    simp only [go_sem, Nat.reduceAdd, Nat.reduceSub, Nat.reduceMul, Nat.reduceBEq, Nat.reduceLT, Nat.reduceLeDiff, Nat.reduceEqDiff, Int.reduceToNat, Int.reduceLE, Int.reduceLT, Int.reduceAdd, Int.reduceSub, Int.reduceNeg, Int.reduceBEq, Int.reduceBNe, Nat.reduceBNe, Nat.reduceDiv, Nat.reduceMod, hk1]
    refine hite_intro (fun h2 => ?_) (fun h2 => ?_)
    · simp only [go_sem, Nat.reduceAdd, Nat.reduceSub, Nat.reduceMul, Nat.reduceBEq, Nat.reduceLT, Nat.reduceLeDiff, Nat.reduceEqDiff, Int.reduceToNat, Int.reduceLE, Int.reduceLT, Int.reduceAdd, Int.reduceSub, Int.reduceNeg, Int.reduceBEq, Int.reduceBNe, Nat.reduceBNe, Nat.reduceDiv, Nat.reduceMod]
      have h3 : l = l.take k ++ id :: l.drop (k + 1) := by
        conv => lhs; rw [← List.take_append_drop (k + 1) l, e1]
        simp at h2; simp [h2]
      have : indexOf l id = k := by
        have hc : l.contains id = true := by rw [h3]; simp
        have h4 : ¬ id ∈ l.take k := by simpa using hno
        rw [indexOf, hc]; simp only [if_true]
        rw [h3, List.idxOf_append, if_neg h4]; simp; omega
      rw [this]
    · simp only [go_sem, Nat.reduceAdd, Nat.reduceSub, Nat.reduceMul, Nat.reduceBEq, Nat.reduceLT, Nat.reduceLeDiff, Nat.reduceEqDiff, Int.reduceToNat, Int.reduceLE, Int.reduceLT, Int.reduceAdd, Int.reduceSub, Int.reduceNeg, Int.reduceBEq, Int.reduceBNe, Nat.reduceBNe, Nat.reduceDiv, Nat.reduceMod]
      refine ⟨by omega, _, Weak.frame (by simp only [go_sem, Nat.reduceAdd, Nat.reduceSub, Nat.reduceMul, Nat.reduceBEq, Nat.reduceLT, Nat.reduceLeDiff, Nat.reduceEqDiff, Int.reduceToNat, Int.reduceLE, Int.reduceLT, Int.reduceAdd, Int.reduceSub, Int.reduceNeg, Int.reduceBEq, Int.reduceBNe, Nat.reduceBNe, Nat.reduceDiv, Nat.reduceMod, wrap_succ (show k < 4611686018427387904 by omega)]), ?_, rfl⟩
      rw [e1]; simp at hno h2 ⊢; exact ⟨hno, h2⟩
  · have hk1 : k = l.length := by simp at h; omega
    simp only [go_sem, Nat.reduceAdd, Nat.reduceSub, Nat.reduceMul, Nat.reduceBEq, Nat.reduceLT, Nat.reduceLeDiff, Nat.reduceEqDiff, Int.reduceToNat, Int.reduceLE, Int.reduceLT, Int.reduceAdd, Int.reduceSub, Int.reduceNeg, Int.reduceBEq, Int.reduceBNe, Nat.reduceBNe, Nat.reduceDiv, Nat.reduceMod]
    refine kont_of_hx cx_ok hb 200 ?_
    simp only [go_sem, Nat.reduceAdd, Nat.reduceSub, Nat.reduceMul, Nat.reduceBEq, Nat.reduceLT, Nat.reduceLeDiff, Nat.reduceEqDiff, Int.reduceToNat, Int.reduceLE, Int.reduceLT, Int.reduceAdd, Int.reduceSub, Int.reduceNeg, Int.reduceBEq, Int.reduceBNe, Nat.reduceBNe, Nat.reduceDiv, Nat.reduceMod]
    subst hk1
    simp at hno
    simp [indexOf, hno]

theorem contains_ok (l : List Int) (id : Int) (hl : l.length < 2147483648) : AFn Tryz.prog 91 [ints l, dint id] (Ret (dbool (l.contains id))) := by
  refine AFn_hxk 0 cx_ok 200 Tryz.func91 rfl Tryz.ntmps91 Tryz.results91 rfl fun base w hb => ?_
  simp only [go_sem, Nat.reduceAdd, Nat.reduceSub, Nat.reduceMul, Nat.reduceBEq, Nat.reduceLT, Nat.reduceLeDiff, Nat.reduceEqDiff, Int.reduceToNat, Int.reduceLE, Int.reduceLT, Int.reduceAdd, Int.reduceSub, Int.reduceNeg, Int.reduceBEq, Int.reduceBNe, Nat.reduceBNe, Nat.reduceDiv, Nat.reduceMod]
  refine kont_call hb fn115 rfl ?_ (index_ok l id hl) (Ret.flat rfl) rfl fun d h hR => ?_
  · simp only [go_sem, Nat.reduceAdd, Nat.reduceSub, Nat.reduceMul, Nat.reduceBEq, Nat.reduceLT, Nat.reduceLeDiff, Nat.reduceEqDiff, Int.reduceToNat, Int.reduceLE, Int.reduceLT, Int.reduceAdd, Int.reduceSub, Int.reduceNeg, Int.reduceBEq, Int.reduceBNe, Nat.reduceBNe, Nat.reduceDiv, Nat.reduceMod]
  obtain ⟨rfl, rfl⟩ := hR
  refine kont_of_hx cx_ok hb 200 ?_
  simp only [go_sem, Nat.reduceAdd, Nat.reduceSub, Nat.reduceMul, Nat.reduceBEq, Nat.reduceLT, Nat.reduceLeDiff, Nat.reduceEqDiff, Int.reduceToNat, Int.reduceLE, Int.reduceLT, Int.reduceAdd, Int.reduceSub, Int.reduceNeg, Int.reduceBEq, Int.reduceBNe, Nat.reduceBNe, Nat.reduceDiv, Nat.reduceMod]
  unfold indexOf
  cases l.contains id <;> simp
  
def lenN (n : Nat) (e : Ev) (lv : List Int) : Nat := if lv.contains e.cls then (if e.inn then n + 1 else n - 1) else n
theorem length_ok (n : Nat) (e : Ev) (lv : List Int) (hl : lv.length < 2147483648) (hn : n < 2147483648) : AFn Tryz.prog 55 [dint n, .agg e.cells, ints lv] (Ret (dint (lenN n e lv))) := by
  refine AFn_hxk 0 cx_ok 200 Tryz.func55 rfl Tryz.ntmps55 Tryz.results55 rfl fun base w hb => ?_
  simp only [go_sem, Nat.reduceAdd, Nat.reduceSub, Nat.reduceMul, Nat.reduceBEq, Nat.reduceLT, Nat.reduceLeDiff, Nat.reduceEqDiff, Int.reduceToNat, Int.reduceLE, Int.reduceLT, Int.reduceAdd, Int.reduceSub, Int.reduceNeg, Int.reduceBEq, Int.reduceBNe, Nat.reduceBNe, Nat.reduceDiv, Nat.reduceMod]
  refine kont_call hb fn91 rfl ?_ (contains_ok lv e.cls hl) (Ret.flat rfl) rfl fun d h hR => ?_
  · simp only [go_sem, Nat.reduceAdd, Nat.reduceSub, Nat.reduceMul, Nat.reduceBEq, Nat.reduceLT, Nat.reduceLeDiff, Nat.reduceEqDiff, Int.reduceToNat, Int.reduceLE, Int.reduceLT, Int.reduceAdd, Int.reduceSub, Int.reduceNeg, Int.reduceBEq, Int.reduceBNe, Nat.reduceBNe, Nat.reduceDiv, Nat.reduceMod]
  obtain ⟨rfl, rfl⟩ := hR
  refine kont_of_hx cx_ok hb 200 ?_
  simp only [go_sem, Nat.reduceAdd, Nat.reduceSub, Nat.reduceMul, Nat.reduceBEq, Nat.reduceLT, Nat.reduceLeDiff, Nat.reduceEqDiff, Int.reduceToNat, Int.reduceLE, Int.reduceLT, Int.reduceAdd, Int.reduceSub, Int.reduceNeg, Int.reduceBEq, Int.reduceBNe, Nat.reduceBNe, Nat.reduceDiv, Nat.reduceMod]
  refine hite_intro (fun h => ?_) (fun h => ?_)
  · simp only [go_sem, Nat.reduceAdd, Nat.reduceSub, Nat.reduceMul, Nat.reduceBEq, Nat.reduceLT, Nat.reduceLeDiff, Nat.reduceEqDiff, Int.reduceToNat, Int.reduceLE, Int.reduceLT, Int.reduceAdd, Int.reduceSub, Int.reduceNeg, Int.reduceBEq, Int.reduceBNe, Nat.reduceBNe, Nat.reduceDiv, Nat.reduceMod]
    simp only [lenN]; simp at h; simp [h]
  · simp only [go_sem, Nat.reduceAdd, Nat.reduceSub, Nat.reduceMul, Nat.reduceBEq, Nat.reduceLT, Nat.reduceLeDiff, Nat.reduceEqDiff, Int.reduceToNat, Int.reduceLE, Int.reduceLT, Int.reduceAdd, Int.reduceSub, Int.reduceNeg, Int.reduceBEq, Int.reduceBNe, Nat.reduceBNe, Nat.reduceDiv, Nat.reduceMod]
    refine hite_intro (fun h2 => ?_) (fun h2 => ?_)
    · simp only [go_sem, Nat.reduceAdd, Nat.reduceSub, Nat.reduceMul, Nat.reduceBEq, Nat.reduceLT, Nat.reduceLeDiff, Nat.reduceEqDiff, Int.reduceToNat, Int.reduceLE, Int.reduceLT, Int.reduceAdd, Int.reduceSub, Int.reduceNeg, Int.reduceBEq, Int.reduceBNe, Nat.reduceBNe, Nat.reduceDiv, Nat.reduceMod, wrap_succ (show n < 4611686018427387904 by omega)]
      simp only [lenN]; simp at h; simp [h, h2]
    · simp only [go_sem, Nat.reduceAdd, Nat.reduceSub, Nat.reduceMul, Nat.reduceBEq, Nat.reduceLT, Nat.reduceLeDiff, Nat.reduceEqDiff, Int.reduceToNat, Int.reduceLE, Int.reduceLT, Int.reduceAdd, Int.reduceSub, Int.reduceNeg, Int.reduceBEq, Int.reduceBNe, Nat.reduceBNe, Nat.reduceDiv, Nat.reduceMod]
      rw [wrap64 (by omega) (by omega)]
      have : max ((n : Int) - 1) 0 = ((n - 1 : Nat) : Int) := by omega
      rw [this]
      simp only [lenN]; simp at h; simp [h, h2]

def lenAt (lv : List Int) (l : List Ev) : Nat → Nat
  | 0 => 0
  | k + 1 => lenN (lenAt lv l k) (l.getD k default) lv
theorem lenAt_le (lv : List Int) (l : List Ev) : ∀ k, lenAt lv l k ≤ k
  | 0 => Nat.le_refl _
  | k + 1 => by have := lenAt_le lv l k; simp only [lenAt, lenN]; split <;> (try split) <;> omega

structure Sp where
  frm : Int
  to : Int
  fst : Int
  lst : Int
  opn : Bool
instance : Inhabited Sp := ⟨⟨0, 0, 0, 0, false⟩⟩
@[go_sem] def Sp.cells (s : Sp) : List D := [.raw (.int .u64 s.frm), .raw (.int .u64 s.to), .raw (.int .i64 s.fst), .raw (.int .i64 s.lst), .raw (.bool s.opn)]
def spStep (lv : List Int) (i : Nat) (e : Ev) (n : Nat) (out : List Sp) : List Sp :=
  if n = 0 ∧ 0 < lenN n e lv then out ++ [⟨e.at_, 0, i, 0, true⟩]
  else if 0 < n ∧ lenN n e lv = 0 then out.set (out.length - 1) { out.getD (out.length - 1) default with to := e.at_, lst := i, opn := false }
  else out
def spAt (lv : List Int) (l : List Ev) : Nat → List Sp
  | 0 => []
  | k + 1 => spStep lv k (l.getD k default) (lenAt lv l k) (spAt lv l k)

theorem spAt_len (lv : List Int) (l : List Ev) : ∀ k, (spAt lv l k).length ≤ k
  | 0 => Nat.le_refl _
  | k + 1 => by have := spAt_len lv l k; simp only [spAt, spStep]; split <;> (try split) <;> simp <;> omega
theorem spAt_pos (lv : List Int) (l : List Ev) : ∀ k, 0 < lenAt lv l k → 0 < (spAt lv l k).length
  | 0, h => by simp [lenAt] at h
  | k + 1, h => by
    have := spAt_pos lv l k
    simp only [lenAt] at h
    simp only [spAt, spStep]; split <;> (try split) <;> simp <;> omega
set_option maxRecDepth 4000 in
theorem of_ok (l : List Ev) (lv : List Int) (hl : l.length < 2147483648) (hv : lv.length < 2147483648) : AFn Tryz.prog 25 [evs l, ints lv] (RetL 5 Sp.cells (spAt lv l l.length)) := by
  refine AFn_hxk 1 cx_ok 200 Tryz.func25 rfl Tryz.ntmps25 Tryz.results25 rfl fun base w hb => ?_
  simp only [go_sem, Nat.reduceAdd, Nat.reduceSub, Nat.reduceMul, Nat.reduceBEq, Nat.reduceLT, Nat.reduceLeDiff, Nat.reduceEqDiff, Int.reduceToNat, Int.reduceLE, Int.reduceLT, Int.reduceAdd, Int.reduceSub, Int.reduceNeg, Int.reduceBEq, Int.reduceBNe, Nat.reduceBNe, Nat.reduceDiv, Nat.reduceMod]
  refine kont_for (fun k s => ∃ g, s = ⟨[(1, ints lv), (5, .ref 0 g 0 (spAt lv l k).length), (6, dint (lenAt lv l k)), (11, evs l), (12, dint l.length), (13, dint k)], [⟨.arr, g, 5, (spAt lv l k).length, fun i => ((spAt lv l k).getD i default).cells⟩]⟩) l.length
    (s0 := ⟨[(1, ints lv), (5, .ref 0 0 0 0), (6, dint 0), (11, evs l), (12, dint l.length), (13, dint 0)], [⟨.arr, 0, 5, 0, fun i => (([] : List Sp).getD i default).cells⟩]⟩)
    (Weak.trans (Weak.phantom 5 5 (fun i => (([] : List Sp).getD i default).cells) rfl) (Weak.frame (by simp only [go_sem, Nat.reduceAdd, Nat.reduceSub, Nat.reduceMul, Nat.reduceBEq, Nat.reduceLT, Nat.reduceLeDiff, Nat.reduceEqDiff, Int.reduceToNat, Int.reduceLE, Int.reduceLT, Int.reduceAdd, Int.reduceSub, Int.reduceNeg, Int.reduceBEq, Int.reduceBNe, Nat.reduceBNe, Nat.reduceDiv, Nat.reduceMod]))) ⟨0, rfl⟩ ?_
  rintro k s hk ⟨g, rfl⟩
  have hle := lenAt_le lv l k
  refine kont_of_hx cx_ok hb 200 ?_
  simp only [go_sem, Nat.reduceAdd, Nat.reduceSub, Nat.reduceMul, Nat.reduceBEq, Nat.reduceLT, Nat.reduceLeDiff, Nat.reduceEqDiff, Int.reduceToNat, Int.reduceLE, Int.reduceLT, Int.reduceAdd, Int.reduceSub, Int.reduceNeg, Int.reduceBEq, Int.reduceBNe, Nat.reduceBNe, Nat.reduceDiv, Nat.reduceMod]
  refine hite_intro (fun h => ?_) (fun h => ?_)
  · have hk1 : k < l.length := by simpa using h
    simp only [go_sem, Nat.reduceAdd, Nat.reduceSub, Nat.reduceMul, Nat.reduceBEq, Nat.reduceLT, Nat.reduceLeDiff, Nat.reduceEqDiff, Int.reduceToNat, Int.reduceLE, Int.reduceLT, Int.reduceAdd, Int.reduceSub, Int.reduceNeg, Int.reduceBEq, Int.reduceBNe, Nat.reduceBNe, Nat.reduceDiv, Nat.reduceMod, hk1]
    refine kont_call hb fn55 rfl ?_ (length_ok (lenAt lv l k) (l.getD k default) lv hv (by omega)) (Ret.flat rfl) rfl fun d h hR => ?_
    · simp only [go_sem, Nat.reduceAdd, Nat.reduceSub, Nat.reduceMul, Nat.reduceBEq, Nat.reduceLT, Nat.reduceLeDiff, Nat.reduceEqDiff, Int.reduceToNat, Int.reduceLE, Int.reduceLT, Int.reduceAdd, Int.reduceSub, Int.reduceNeg, Int.reduceBEq, Int.reduceBNe, Nat.reduceBNe, Nat.reduceDiv, Nat.reduceMod]
    obtain ⟨rfl, rfl⟩ := hR
    refine kont_of_hx cx_ok hb 200 ?_
    simp only [go_sem, Nat.reduceAdd, Nat.reduceSub, Nat.reduceMul, Nat.reduceBEq, Nat.reduceLT, Nat.reduceLeDiff, Nat.reduceEqDiff, Int.reduceToNat, Int.reduceLE, Int.reduceLT, Int.reduceAdd, Int.reduceSub, Int.reduceNeg, Int.reduceBEq, Int.reduceBNe, Nat.reduceBNe, Nat.reduceDiv, Nat.reduceMod]
    have hle2 := lenAt_le lv l (k + 1)
    simp only [lenAt] at hle2
    have hlen := spAt_len lv l k
    have hwr := wrap_succ (show k < 4611686018427387904 by omega)
    by_cases hn : lenAt lv l k = 0 <;> by_cases hm : lenN (lenAt lv l k) (l.getD k default) lv = 0
    · have e5 : spAt lv l (k + 1) = spAt lv l k := by simp only [spAt, spStep]; rw [if_neg (by omega), if_neg (by omega)]
      simp only [go_sem, Nat.reduceAdd, Nat.reduceSub, Nat.reduceMul, Nat.reduceBEq, Nat.reduceLT, Nat.reduceLeDiff, Nat.reduceEqDiff, Int.reduceToNat, Int.reduceLE, Int.reduceLT, Int.reduceAdd, Int.reduceSub, Int.reduceNeg, Int.reduceBEq, Int.reduceBNe, Nat.reduceBNe, Nat.reduceDiv, Nat.reduceMod, bz hn, dnp hm, dnp hn, bz hm]
      exact ⟨hk1, _, Weak.to 1 (by simp only [go_sem, Nat.reduceAdd, Nat.reduceSub, Nat.reduceMul, Nat.reduceBEq, Nat.reduceLT, Nat.reduceLeDiff, Nat.reduceEqDiff, Int.reduceToNat, Int.reduceLE, Int.reduceLT, Int.reduceAdd, Int.reduceSub, Int.reduceNeg, Int.reduceBEq, Int.reduceBNe, Nat.reduceBNe, Nat.reduceDiv, Nat.reduceMod, hwr, lenAt, e5]), g, rfl⟩
    · have e5 : spAt lv l (k + 1) = spAt lv l k ++ [⟨(l.getD k default).at_, 0, k, 0, true⟩] := by simp only [spAt, spStep]; rw [if_pos (by omega)]
      simp only [go_sem, Nat.reduceAdd, Nat.reduceSub, Nat.reduceMul, Nat.reduceBEq, Nat.reduceLT, Nat.reduceLeDiff, Nat.reduceEqDiff, Int.reduceToNat, Int.reduceLE, Int.reduceLT, Int.reduceAdd, Int.reduceSub, Int.reduceNeg, Int.reduceBEq, Int.reduceBNe, Nat.reduceBNe, Nat.reduceDiv, Nat.reduceMod, bz hn, dp hm, dnp hn, bnz hm]
      refine ⟨by omega, hk1, _, Weak.to 1 ⟨?_, by simp only [go_sem, Nat.reduceAdd, Nat.reduceSub, Nat.reduceMul, Nat.reduceBEq, Nat.reduceLT, Nat.reduceLeDiff, Nat.reduceEqDiff, Int.reduceToNat, Int.reduceLE, Int.reduceLT, Int.reduceAdd, Int.reduceSub, Int.reduceNeg, Int.reduceBEq, Int.reduceBNe, Nat.reduceBNe, Nat.reduceDiv, Nat.reduceMod], by simp only [go_sem, Nat.reduceAdd, Nat.reduceSub, Nat.reduceMul, Nat.reduceBEq, Nat.reduceLT, Nat.reduceLeDiff, Nat.reduceEqDiff, Int.reduceToNat, Int.reduceLE, Int.reduceLT, Int.reduceAdd, Int.reduceSub, Int.reduceNeg, Int.reduceBEq, Int.reduceBNe, Nat.reduceBNe, Nat.reduceDiv, Nat.reduceMod], ?_⟩, g + 1, rfl⟩
      · simp only [go_sem, Nat.reduceAdd, Nat.reduceSub, Nat.reduceMul, Nat.reduceBEq, Nat.reduceLT, Nat.reduceLeDiff, Nat.reduceEqDiff, Int.reduceToNat, Int.reduceLE, Int.reduceLT, Int.reduceAdd, Int.reduceSub, Int.reduceNeg, Int.reduceBEq, Int.reduceBNe, Nat.reduceBNe, Nat.reduceDiv, Nat.reduceMod, hwr, lenAt, e5, List.length_append]
      · simp only [go_sem, Nat.reduceAdd, Nat.reduceSub, Nat.reduceMul, Nat.reduceBEq, Nat.reduceLT, Nat.reduceLeDiff, Nat.reduceEqDiff, Int.reduceToNat, Int.reduceLE, Int.reduceLT, Int.reduceAdd, Int.reduceSub, Int.reduceNeg, Int.reduceBEq, Int.reduceBNe, Nat.reduceBNe, Nat.reduceDiv, Nat.reduceMod, e5, List.length_append]
        intro i hi
        by_cases h : i < (spAt lv l k).length
        · simp [h, List.getElem?_append_left h]
        · have : i = (spAt lv l k).length := by omega
          subst this
          simp
    · have e5 : spAt lv l (k + 1) = (spAt lv l k).set ((spAt lv l k).length - 1) { (spAt lv l k).getD ((spAt lv l k).length - 1) default with to := (l.getD k default).at_, lst := k, opn := false } := by simp only [spAt, spStep]; rw [if_neg (by omega), if_pos (by omega)]
      have hpos := spAt_pos lv l k (by omega)
      have e6 : IntKind.i64.wrap (((spAt lv l k).length : Int) - 1) = (((spAt lv l k).length - 1 : Nat) : Int) := by rw [wrap64 (by omega) (by omega)]; omega
      have e7 : (spAt lv l k).length - 1 < (spAt lv l k).length := by omega
      simp only [go_sem, Nat.reduceAdd, Nat.reduceSub, Nat.reduceMul, Nat.reduceBEq, Nat.reduceLT, Nat.reduceLeDiff, Nat.reduceEqDiff, Int.reduceToNat, Int.reduceLE, Int.reduceLT, Int.reduceAdd, Int.reduceSub, Int.reduceNeg, Int.reduceBEq, Int.reduceBNe, Nat.reduceBNe, Nat.reduceDiv, Nat.reduceMod, bnz hn, dnp hm, dp hn, bz hm, e6, e7]
      refine ⟨hk1, _, Weak.to 1 ⟨?_, by simp only [go_sem, Nat.reduceAdd, Nat.reduceSub, Nat.reduceMul, Nat.reduceBEq, Nat.reduceLT, Nat.reduceLeDiff, Nat.reduceEqDiff, Int.reduceToNat, Int.reduceLE, Int.reduceLT, Int.reduceAdd, Int.reduceSub, Int.reduceNeg, Int.reduceBEq, Int.reduceBNe, Nat.reduceBNe, Nat.reduceDiv, Nat.reduceMod], by simp only [go_sem, Nat.reduceAdd, Nat.reduceSub, Nat.reduceMul, Nat.reduceBEq, Nat.reduceLT, Nat.reduceLeDiff, Nat.reduceEqDiff, Int.reduceToNat, Int.reduceLE, Int.reduceLT, Int.reduceAdd, Int.reduceSub, Int.reduceNeg, Int.reduceBEq, Int.reduceBNe, Nat.reduceBNe, Nat.reduceDiv, Nat.reduceMod], ?_⟩, g, rfl⟩
      · simp only [go_sem, Nat.reduceAdd, Nat.reduceSub, Nat.reduceMul, Nat.reduceBEq, Nat.reduceLT, Nat.reduceLeDiff, Nat.reduceEqDiff, Int.reduceToNat, Int.reduceLE, Int.reduceLT, Int.reduceAdd, Int.reduceSub, Int.reduceNeg, Int.reduceBEq, Int.reduceBNe, Nat.reduceBNe, Nat.reduceDiv, Nat.reduceMod, hwr, lenAt, e5, List.length_set]
      · simp only [go_sem, Nat.reduceAdd, Nat.reduceSub, Nat.reduceMul, Nat.reduceBEq, Nat.reduceLT, Nat.reduceLeDiff, Nat.reduceEqDiff, Int.reduceToNat, Int.reduceLE, Int.reduceLT, Int.reduceAdd, Int.reduceSub, Int.reduceNeg, Int.reduceBEq, Int.reduceBNe, Nat.reduceBNe, Nat.reduceDiv, Nat.reduceMod, e5, List.length_set]
        intro i hi
        by_cases h : i = (spAt lv l k).length - 1
        · subst h; simp [e7]
        · simp [h, beq_eq_false_iff_ne.2 h, List.getElem?_set_ne (Ne.symm h)]
    · have e5 : spAt lv l (k + 1) = spAt lv l k := by simp only [spAt, spStep]; rw [if_neg (by omega), if_neg (by omega)]
      simp only [go_sem, Nat.reduceAdd, Nat.reduceSub, Nat.reduceMul, Nat.reduceBEq, Nat.reduceLT, Nat.reduceLeDiff, Nat.reduceEqDiff, Int.reduceToNat, Int.reduceLE, Int.reduceLT, Int.reduceAdd, Int.reduceSub, Int.reduceNeg, Int.reduceBEq, Int.reduceBNe, Nat.reduceBNe, Nat.reduceDiv, Nat.reduceMod, bnz hn, dp hm, dp hn, bnz hm]
      exact ⟨hk1, _, Weak.to 1 (by simp only [go_sem, Nat.reduceAdd, Nat.reduceSub, Nat.reduceMul, Nat.reduceBEq, Nat.reduceLT, Nat.reduceLeDiff, Nat.reduceEqDiff, Int.reduceToNat, Int.reduceLE, Int.reduceLT, Int.reduceAdd, Int.reduceSub, Int.reduceNeg, Int.reduceBEq, Int.reduceBNe, Nat.reduceBNe, Nat.reduceDiv, Nat.reduceMod, hwr, lenAt, e5]), g, rfl⟩
  · have hk1 : k = l.length := by simp at h; omega
    simp only [go_sem, Nat.reduceAdd, Nat.reduceSub, Nat.reduceMul, Nat.reduceBEq, Nat.reduceLT, Nat.reduceLeDiff, Nat.reduceEqDiff, Int.reduceToNat, Int.reduceLE, Int.reduceLT, Int.reduceAdd, Int.reduceSub, Int.reduceNeg, Int.reduceBEq, Int.reduceBNe, Nat.reduceBNe, Nat.reduceDiv, Nat.reduceMod]
    refine kont_of_hx cx_ok hb 200 ?_
    simp only [go_sem, Nat.reduceAdd, Nat.reduceSub, Nat.reduceMul, Nat.reduceBEq, Nat.reduceLT, Nat.reduceLeDiff, Nat.reduceEqDiff, Int.reduceToNat, Int.reduceLE, Int.reduceLT, Int.reduceAdd, Int.reduceSub, Int.reduceNeg, Int.reduceBEq, Int.reduceBNe, Nat.reduceBNe, Nat.reduceDiv, Nat.reduceMod]
    subst hk1
    exact ⟨g, rfl, rfl⟩

end Go.Fg.X.SP
