/- Walks of the functions that the statement reaches. No conditions: contracts and laws. -/
import Derived.Test.YtiiaocpkjmiacaaGreatXW3
import Derived.Test.YtiiaocpkjmiacaaGreatFgJoin
import Derived.Test.YtiiaocpkjmiacaaGreatXLay
import Derived.Shelf.Sort.Plain
import Derived.Shelf.Slices.In.SortNone
import Derived.Lib.SortBridge
namespace Go.Fg.X
open Go.Proofs Go.Fg
set_option maxRecDepth 100000
set_option maxHeartbeats 4000000
set_option linter.unusedSimpArgs false
set_option linter.unusedVariables false
@[go_sem] def dcv (c : Cv) : D := .agg c.cells
@[go_sem] def dkl (c : Kls) : D := .agg c.cells
/-- What a curve is: 0 bad, 1 none, 2 linear, 3 concave, 4 convex. -/
def ofI (c : Cv) : Int := if c.m1 = 0 ∧ c.d = 0 ∧ c.m2 = 0 then 1 else if 4294967295 < c.m1 ∨ 4294967295 < c.m2 ∨ 1048576 < c.d then 0 else if c.d = 0 ∧ c.m1 = c.m2 then 2 else if 0 < c.d ∧ c.m2 < c.m1 then 3 else if 0 < c.d ∧ c.m1 = 0 ∧ 0 < c.m2 then 4 else 0
theorem ofcI_ok (c : Cv) : AFn Tryz.prog 63 [dcv c] (Ret (dint (ofI c))) := by
  refine AFn_hxk 0 cx_ok 200 Tryz.func63 rfl Tryz.ntmps63 Tryz.results63 rfl fun base w hb => ?_
  simp only [go_sem, Nat.reduceAdd, Nat.reduceSub, Nat.reduceMul, Nat.reduceBEq, Nat.reduceLT, Nat.reduceLeDiff, Nat.reduceEqDiff, Int.reduceToNat, Int.reduceLE, Int.reduceLT, Int.reduceAdd, Int.reduceSub, Int.reduceNeg, Int.reduceBEq, Int.reduceBNe, Nat.reduceBNe, Nat.reduceDiv, Nat.reduceMod]
  repeat' (first | ((first | refine hite_dec (fun h => ?_) (fun h => ?_) | refine hite_beq (fun h => ?_) (fun h => ?_) | refine hite_bne (fun h => ?_) (fun h => ?_) | refine hite_intro (fun h => ?_) (fun h => ?_) | refine hite_decA (fun h => ?_) (fun h => ?_) | refine hite_beqA (fun h => ?_) (fun h => ?_) | refine hite_bneA (fun h => ?_) (fun h => ?_) | refine hite_intro' (fun h => ?_) (fun h => ?_)) <;> (try simp only [go_sem, Nat.reduceAdd, Nat.reduceSub, Nat.reduceMul, Nat.reduceBEq, Nat.reduceLT, Nat.reduceLeDiff, Nat.reduceEqDiff, Int.reduceToNat, Int.reduceLE, Int.reduceLT, Int.reduceAdd, Int.reduceSub, Int.reduceNeg, Int.reduceBEq, Int.reduceBNe, Nat.reduceBNe, Nat.reduceDiv, Nat.reduceMod])) | (refine And.intro (by omega) ?_; try simp only [go_sem, Nat.reduceAdd, Nat.reduceSub, Nat.reduceMul, Nat.reduceBEq, Nat.reduceLT, Nat.reduceLeDiff, Nat.reduceEqDiff, Int.reduceToNat, Int.reduceLE, Int.reduceLT, Int.reduceAdd, Int.reduceSub, Int.reduceNeg, Int.reduceBEq, Int.reduceBNe, Nat.reduceBNe, Nat.reduceDiv, Nat.reduceMod]))
  all_goals (congr 2; (try simp only [Bool.and_eq_false_iff, beq_eq_false_iff_ne, Bool.and_eq_true, beq_iff_eq, ne_eq] at *); unfold ofI; (repeat' split) <;> omega)
theorem rofcI_ok (c : Cv) (h1 : 0 ≤ c.m1) (h2 : 0 ≤ c.d) (h3 : 0 ≤ c.m2) : AFn Tryz.prog 41 [dcv c] (Ret (dint (ofI c))) := by
  refine AFn_hxk 0 cx_ok 200 Tryz.func41 rfl Tryz.ntmps41 Tryz.results41 rfl fun base w hb => ?_
  simp only [go_sem, Nat.reduceAdd, Nat.reduceSub, Nat.reduceMul, Nat.reduceBEq, Nat.reduceLT, Nat.reduceLeDiff, Nat.reduceEqDiff, Int.reduceToNat, Int.reduceLE, Int.reduceLT, Int.reduceAdd, Int.reduceSub, Int.reduceNeg, Int.reduceBEq, Int.reduceBNe, Nat.reduceBNe, Nat.reduceDiv, Nat.reduceMod]
  repeat' (first | ((first | refine hite_dec (fun h => ?_) (fun h => ?_) | refine hite_beq (fun h => ?_) (fun h => ?_) | refine hite_bne (fun h => ?_) (fun h => ?_) | refine hite_intro (fun h => ?_) (fun h => ?_) | refine hite_decA (fun h => ?_) (fun h => ?_) | refine hite_beqA (fun h => ?_) (fun h => ?_) | refine hite_bneA (fun h => ?_) (fun h => ?_) | refine hite_intro' (fun h => ?_) (fun h => ?_)) <;> (try simp only [go_sem, Nat.reduceAdd, Nat.reduceSub, Nat.reduceMul, Nat.reduceBEq, Nat.reduceLT, Nat.reduceLeDiff, Nat.reduceEqDiff, Int.reduceToNat, Int.reduceLE, Int.reduceLT, Int.reduceAdd, Int.reduceSub, Int.reduceNeg, Int.reduceBEq, Int.reduceBNe, Nat.reduceBNe, Nat.reduceDiv, Nat.reduceMod])) | (refine And.intro (by omega) ?_; try simp only [go_sem, Nat.reduceAdd, Nat.reduceSub, Nat.reduceMul, Nat.reduceBEq, Nat.reduceLT, Nat.reduceLeDiff, Nat.reduceEqDiff, Int.reduceToNat, Int.reduceLE, Int.reduceLT, Int.reduceAdd, Int.reduceSub, Int.reduceNeg, Int.reduceBEq, Int.reduceBNe, Nat.reduceBNe, Nat.reduceDiv, Nat.reduceMod]))
  all_goals (congr 2; unfold ofI; (repeat' split) <;> omega)
theorem crightI_ok (c : Cv) : AFn Tryz.prog 49 [dcv c] (Ret (dbool (ofI c != 0))) := by
  refine AFn_hxk 0 cx_ok 200 Tryz.func49 rfl Tryz.ntmps49 Tryz.results49 rfl fun base w hb => ?_
  simp only [go_sem, Nat.reduceAdd, Nat.reduceSub, Nat.reduceMul, Nat.reduceBEq, Nat.reduceLT, Nat.reduceLeDiff, Nat.reduceEqDiff, Int.reduceToNat, Int.reduceLE, Int.reduceLT, Int.reduceAdd, Int.reduceSub, Int.reduceNeg, Int.reduceBEq, Int.reduceBNe, Nat.reduceBNe, Nat.reduceDiv, Nat.reduceMod]
  refine kont_call hb fn63 rfl ?_ (ofcI_ok c) (Ret.flat rfl) rfl fun d h hR => ?_
  · simp only [go_sem, Nat.reduceAdd, Nat.reduceSub, Nat.reduceMul, Nat.reduceBEq, Nat.reduceLT, Nat.reduceLeDiff, Nat.reduceEqDiff, Int.reduceToNat, Int.reduceLE, Int.reduceLT, Int.reduceAdd, Int.reduceSub, Int.reduceNeg, Int.reduceBEq, Int.reduceBNe, Nat.reduceBNe, Nat.reduceDiv, Nat.reduceMod]
  obtain ⟨rfl, rfl⟩ := hR
  refine kont_of_hx cx_ok hb 200 ?_
  simp only [go_sem, Nat.reduceAdd, Nat.reduceSub, Nat.reduceMul, Nat.reduceBEq, Nat.reduceLT, Nat.reduceLeDiff, Nat.reduceEqDiff, Int.reduceToNat, Int.reduceLE, Int.reduceLT, Int.reduceAdd, Int.reduceSub, Int.reduceNeg, Int.reduceBEq, Int.reduceBNe, Nat.reduceBNe, Nat.reduceDiv, Nat.reduceMod]
theorem shas_ok (c : Cv) : AFn Tryz.prog 66 [dcv c] (Ret (dbool (decide (1 < ofI c)))) := by
  refine AFn_hxk 0 cx_ok 200 Tryz.func66 rfl Tryz.ntmps66 Tryz.results66 rfl fun base w hb => ?_
  simp only [go_sem, Nat.reduceAdd, Nat.reduceSub, Nat.reduceMul, Nat.reduceBEq, Nat.reduceLT, Nat.reduceLeDiff, Nat.reduceEqDiff, Int.reduceToNat, Int.reduceLE, Int.reduceLT, Int.reduceAdd, Int.reduceSub, Int.reduceNeg, Int.reduceBEq, Int.reduceBNe, Nat.reduceBNe, Nat.reduceDiv, Nat.reduceMod]
  refine kont_call hb fn63 rfl ?_ (ofcI_ok c) (Ret.flat rfl) rfl fun d h hR => ?_
  · simp only [go_sem, Nat.reduceAdd, Nat.reduceSub, Nat.reduceMul, Nat.reduceBEq, Nat.reduceLT, Nat.reduceLeDiff, Nat.reduceEqDiff, Int.reduceToNat, Int.reduceLE, Int.reduceLT, Int.reduceAdd, Int.reduceSub, Int.reduceNeg, Int.reduceBEq, Int.reduceBNe, Nat.reduceBNe, Nat.reduceDiv, Nat.reduceMod]
  obtain ⟨rfl, rfl⟩ := hR
  refine kont_of_hx cx_ok hb 200 ?_
  simp only [go_sem, Nat.reduceAdd, Nat.reduceSub, Nat.reduceMul, Nat.reduceBEq, Nat.reduceLT, Nat.reduceLeDiff, Nat.reduceEqDiff, Int.reduceToNat, Int.reduceLE, Int.reduceLT, Int.reduceAdd, Int.reduceSub, Int.reduceNeg, Int.reduceBEq, Int.reduceBNe, Nat.reduceBNe, Nat.reduceDiv, Nat.reduceMod]
theorem sreal_ok (c : Kls) : AFn Tryz.prog 64 [dkl c] (Ret (dbool (decide (1 < ofI c.rt)))) := by
  refine AFn_hxk 0 cx_ok 200 Tryz.func64 rfl Tryz.ntmps64 Tryz.results64 rfl fun base w hb => ?_
  simp only [go_sem, Nat.reduceAdd, Nat.reduceSub, Nat.reduceMul, Nat.reduceBEq, Nat.reduceLT, Nat.reduceLeDiff, Nat.reduceEqDiff, Int.reduceToNat, Int.reduceLE, Int.reduceLT, Int.reduceAdd, Int.reduceSub, Int.reduceNeg, Int.reduceBEq, Int.reduceBNe, Nat.reduceBNe, Nat.reduceDiv, Nat.reduceMod]
  refine kont_call hb fn66 rfl ?_ (shas_ok c.rt) (Ret.flat rfl) rfl fun d h hR => ?_
  · simp only [go_sem, Nat.reduceAdd, Nat.reduceSub, Nat.reduceMul, Nat.reduceBEq, Nat.reduceLT, Nat.reduceLeDiff, Nat.reduceEqDiff, Int.reduceToNat, Int.reduceLE, Int.reduceLT, Int.reduceAdd, Int.reduceSub, Int.reduceNeg, Int.reduceBEq, Int.reduceBNe, Nat.reduceBNe, Nat.reduceDiv, Nat.reduceMod]
  obtain ⟨rfl, rfl⟩ := hR
  refine kont_of_hx cx_ok hb 200 ?_
  simp only [go_sem, Nat.reduceAdd, Nat.reduceSub, Nat.reduceMul, Nat.reduceBEq, Nat.reduceLT, Nat.reduceLeDiff, Nat.reduceEqDiff, Int.reduceToNat, Int.reduceLE, Int.reduceLT, Int.reduceAdd, Int.reduceSub, Int.reduceNeg, Int.reduceBEq, Int.reduceBNe, Nat.reduceBNe, Nat.reduceDiv, Nat.reduceMod]
theorem sshares_ok (c : Kls) : AFn Tryz.prog 32 [dkl c] (Ret (dbool (decide (1 < ofI c.ls)))) := by
  refine AFn_hxk 0 cx_ok 200 Tryz.func32 rfl Tryz.ntmps32 Tryz.results32 rfl fun base w hb => ?_
  simp only [go_sem, Nat.reduceAdd, Nat.reduceSub, Nat.reduceMul, Nat.reduceBEq, Nat.reduceLT, Nat.reduceLeDiff, Nat.reduceEqDiff, Int.reduceToNat, Int.reduceLE, Int.reduceLT, Int.reduceAdd, Int.reduceSub, Int.reduceNeg, Int.reduceBEq, Int.reduceBNe, Nat.reduceBNe, Nat.reduceDiv, Nat.reduceMod]
  refine kont_call hb fn66 rfl ?_ (shas_ok c.ls) (Ret.flat rfl) rfl fun d h hR => ?_
  · simp only [go_sem, Nat.reduceAdd, Nat.reduceSub, Nat.reduceMul, Nat.reduceBEq, Nat.reduceLT, Nat.reduceLeDiff, Nat.reduceEqDiff, Int.reduceToNat, Int.reduceLE, Int.reduceLT, Int.reduceAdd, Int.reduceSub, Int.reduceNeg, Int.reduceBEq, Int.reduceBNe, Nat.reduceBNe, Nat.reduceDiv, Nat.reduceMod]
  obtain ⟨rfl, rfl⟩ := hR
  refine kont_of_hx cx_ok hb 200 ?_
  simp only [go_sem, Nat.reduceAdd, Nat.reduceSub, Nat.reduceMul, Nat.reduceBEq, Nat.reduceLT, Nat.reduceLeDiff, Nat.reduceEqDiff, Int.reduceToNat, Int.reduceLE, Int.reduceLT, Int.reduceAdd, Int.reduceSub, Int.reduceNeg, Int.reduceBEq, Int.reduceBNe, Nat.reduceBNe, Nat.reduceDiv, Nat.reduceMod]
theorem scapped_ok (c : Kls) : AFn Tryz.prog 65 [dkl c] (Ret (dbool (decide (1 < ofI c.ul)))) := by
  refine AFn_hxk 0 cx_ok 200 Tryz.func65 rfl Tryz.ntmps65 Tryz.results65 rfl fun base w hb => ?_
  simp only [go_sem, Nat.reduceAdd, Nat.reduceSub, Nat.reduceMul, Nat.reduceBEq, Nat.reduceLT, Nat.reduceLeDiff, Nat.reduceEqDiff, Int.reduceToNat, Int.reduceLE, Int.reduceLT, Int.reduceAdd, Int.reduceSub, Int.reduceNeg, Int.reduceBEq, Int.reduceBNe, Nat.reduceBNe, Nat.reduceDiv, Nat.reduceMod]
  refine kont_call hb fn66 rfl ?_ (shas_ok c.ul) (Ret.flat rfl) rfl fun d h hR => ?_
  · simp only [go_sem, Nat.reduceAdd, Nat.reduceSub, Nat.reduceMul, Nat.reduceBEq, Nat.reduceLT, Nat.reduceLeDiff, Nat.reduceEqDiff, Int.reduceToNat, Int.reduceLE, Int.reduceLT, Int.reduceAdd, Int.reduceSub, Int.reduceNeg, Int.reduceBEq, Int.reduceBNe, Nat.reduceBNe, Nat.reduceDiv, Nat.reduceMod]
  obtain ⟨rfl, rfl⟩ := hR
  refine kont_of_hx cx_ok hb 200 ?_
  simp only [go_sem, Nat.reduceAdd, Nat.reduceSub, Nat.reduceMul, Nat.reduceBEq, Nat.reduceLT, Nat.reduceLeDiff, Nat.reduceEqDiff, Int.reduceToNat, Int.reduceLE, Int.reduceLT, Int.reduceAdd, Int.reduceSub, Int.reduceNeg, Int.reduceBEq, Int.reduceBNe, Nat.reduceBNe, Nat.reduceDiv, Nat.reduceMod]
def frI (n a b : Int) : Bool := decide (a ≤ n) && decide (n ≤ b)
theorem sfrom_ok (n a b : Int) : AFn Tryz.prog 62 [dint n, dint a, dint b] (Ret (dbool (frI n a b))) := by
  refine AFn_hxk 0 cx_ok 200 Tryz.func62 rfl Tryz.ntmps62 Tryz.results62 rfl fun base w hb => ?_
  simp only [go_sem, Nat.reduceAdd, Nat.reduceSub, Nat.reduceMul, Nat.reduceBEq, Nat.reduceLT, Nat.reduceLeDiff, Nat.reduceEqDiff, Int.reduceToNat, Int.reduceLE, Int.reduceLT, Int.reduceAdd, Int.reduceSub, Int.reduceNeg, Int.reduceBEq, Int.reduceBNe, Nat.reduceBNe, Nat.reduceDiv, Nat.reduceMod]
  unfold frI
  by_cases h : a ≤ n
  · simp only [go_sem, Nat.reduceAdd, Nat.reduceSub, Nat.reduceMul, Nat.reduceBEq, Nat.reduceLT, Nat.reduceLeDiff, Nat.reduceEqDiff, Int.reduceToNat, Int.reduceLE, Int.reduceLT, Int.reduceAdd, Int.reduceSub, Int.reduceNeg, Int.reduceBEq, Int.reduceBNe, Nat.reduceBNe, Nat.reduceDiv, Nat.reduceMod, h]
  · simp only [go_sem, Nat.reduceAdd, Nat.reduceSub, Nat.reduceMul, Nat.reduceBEq, Nat.reduceLT, Nat.reduceLeDiff, Nat.reduceEqDiff, Int.reduceToNat, Int.reduceLE, Int.reduceLT, Int.reduceAdd, Int.reduceSub, Int.reduceNeg, Int.reduceBEq, Int.reduceBNe, Nat.reduceBNe, Nat.reduceDiv, Nat.reduceMod, h]
end Go.Fg.X
namespace Go.Fg.X
open Go.Proofs Go.Fg
set_option maxRecDepth 100000
set_option maxHeartbeats 4000000
set_option linter.unusedSimpArgs false
set_option linter.unusedVariables false
def idOk (c : Kls) : Bool := frI c.iD 1 65536 && frI c.parent 0 65536 && !(c.parent == c.iD)
def cvOk (c : Kls) : Bool := (ofI c.rt != 0) && ((ofI c.ls != 0) && !(ofI c.ls == 4)) && ((ofI c.ul != 0) && !(ofI c.ul == 4))
def leafOk (c : Kls) : Bool := frI c.pkts 1 64 && frI c.bytes 1 1048576 && (decide (1 < ofI c.rt) || decide (1 < ofI c.ls))
def innerOk (c : Kls) : Bool := c.pkts == 0 && c.bytes == 0 && !decide (1 < ofI c.rt)
/-- What is wrong with a class: an error's number. -/
def rightV (c : Kls) : Int := if !idOk c then 1 else if !cvOk c then 21 else if (c.leaf && !leafOk c) || (!c.leaf && !innerOk c) || (decide (1 < ofI c.ul) && !decide (1 < ofI c.ls)) then 29 else 0
structure RInv (c : Kls) (k : Nat) (s : St) : Prop where
  h0 : 0 < k → ofI c.rt ≠ 0
  h1 : 1 < k → ofI c.ls ≠ 0 ∧ ofI c.ls ≠ 4
  h2 : 2 < k → ofI c.ul ≠ 0 ∧ ofI c.ul ≠ 4
  eq : s = ⟨[(1, .ptr 0 0 0 0), (2, dint 0), (30, .agg (c.rt.cells ++ (c.ls.cells ++ c.ul.cells))), (31, dint k)], [⟨.one, 0, 14, 1, fun _ => c.cells⟩]⟩
theorem sright_ok (c : Kls) : AFn Tryz.prog 31 [dkl c] (Ret (dint (rightV c))) := by
  refine AFn_hxk 0 cx_ok 200 Tryz.func31 rfl Tryz.ntmps31 Tryz.results31 rfl fun base w hb => ?_
  simp only [go_sem, Nat.reduceAdd, Nat.reduceSub, Nat.reduceMul, Nat.reduceBEq, Nat.reduceLT, Nat.reduceLeDiff, Nat.reduceEqDiff, Int.reduceToNat, Int.reduceLE, Int.reduceLT, Int.reduceAdd, Int.reduceSub, Int.reduceNeg, Int.reduceBEq, Int.reduceBNe, Nat.reduceBNe, Nat.reduceDiv, Nat.reduceMod]
  refine kont_call hb fn62 rfl ?_ (sfrom_ok c.iD 1 65536) (Ret.flat rfl) rfl fun d h hR => ?_
  · simp only [go_sem, Nat.reduceAdd, Nat.reduceSub, Nat.reduceMul, Nat.reduceBEq, Nat.reduceLT, Nat.reduceLeDiff, Nat.reduceEqDiff, Int.reduceToNat, Int.reduceLE, Int.reduceLT, Int.reduceAdd, Int.reduceSub, Int.reduceNeg, Int.reduceBEq, Int.reduceBNe, Nat.reduceBNe, Nat.reduceDiv, Nat.reduceMod]
  obtain ⟨rfl, rfl⟩ := hR
  refine kont_of_hx cx_ok hb 200 ?_
  simp only [go_sem, Nat.reduceAdd, Nat.reduceSub, Nat.reduceMul, Nat.reduceBEq, Nat.reduceLT, Nat.reduceLeDiff, Nat.reduceEqDiff, Int.reduceToNat, Int.reduceLE, Int.reduceLT, Int.reduceAdd, Int.reduceSub, Int.reduceNeg, Int.reduceBEq, Int.reduceBNe, Nat.reduceBNe, Nat.reduceDiv, Nat.reduceMod]
  cases hb1 : frI c.iD 1 65536
  · have : rightV c = 1 := by simp [rightV, idOk, hb1]
    simp only [go_sem, Nat.reduceAdd, Nat.reduceSub, Nat.reduceMul, Nat.reduceBEq, Nat.reduceLT, Nat.reduceLeDiff, Nat.reduceEqDiff, Int.reduceToNat, Int.reduceLE, Int.reduceLT, Int.reduceAdd, Int.reduceSub, Int.reduceNeg, Int.reduceBEq, Int.reduceBNe, Nat.reduceBNe, Nat.reduceDiv, Nat.reduceMod, this]
  · simp only [go_sem, Nat.reduceAdd, Nat.reduceSub, Nat.reduceMul, Nat.reduceBEq, Nat.reduceLT, Nat.reduceLeDiff, Nat.reduceEqDiff, Int.reduceToNat, Int.reduceLE, Int.reduceLT, Int.reduceAdd, Int.reduceSub, Int.reduceNeg, Int.reduceBEq, Int.reduceBNe, Nat.reduceBNe, Nat.reduceDiv, Nat.reduceMod]
    refine kont_call hb fn62 rfl ?_ (sfrom_ok c.parent 0 65536) (Ret.flat rfl) rfl fun d h hR => ?_
    · simp only [go_sem, Nat.reduceAdd, Nat.reduceSub, Nat.reduceMul, Nat.reduceBEq, Nat.reduceLT, Nat.reduceLeDiff, Nat.reduceEqDiff, Int.reduceToNat, Int.reduceLE, Int.reduceLT, Int.reduceAdd, Int.reduceSub, Int.reduceNeg, Int.reduceBEq, Int.reduceBNe, Nat.reduceBNe, Nat.reduceDiv, Nat.reduceMod]
    obtain ⟨rfl, rfl⟩ := hR
    refine kont_of_hx cx_ok hb 200 ?_
    simp only [go_sem, Nat.reduceAdd, Nat.reduceSub, Nat.reduceMul, Nat.reduceBEq, Nat.reduceLT, Nat.reduceLeDiff, Nat.reduceEqDiff, Int.reduceToNat, Int.reduceLE, Int.reduceLT, Int.reduceAdd, Int.reduceSub, Int.reduceNeg, Int.reduceBEq, Int.reduceBNe, Nat.reduceBNe, Nat.reduceDiv, Nat.reduceMod]
    cases hb2 : frI c.parent 0 65536
    · have : rightV c = 1 := by simp [rightV, idOk, hb1, hb2]
      simp only [go_sem, Nat.reduceAdd, Nat.reduceSub, Nat.reduceMul, Nat.reduceBEq, Nat.reduceLT, Nat.reduceLeDiff, Nat.reduceEqDiff, Int.reduceToNat, Int.reduceLE, Int.reduceLT, Int.reduceAdd, Int.reduceSub, Int.reduceNeg, Int.reduceBEq, Int.reduceBNe, Nat.reduceBNe, Nat.reduceDiv, Nat.reduceMod, this]
    · simp only [go_sem, Nat.reduceAdd, Nat.reduceSub, Nat.reduceMul, Nat.reduceBEq, Nat.reduceLT, Nat.reduceLeDiff, Nat.reduceEqDiff, Int.reduceToNat, Int.reduceLE, Int.reduceLT, Int.reduceAdd, Int.reduceSub, Int.reduceNeg, Int.reduceBEq, Int.reduceBNe, Nat.reduceBNe, Nat.reduceDiv, Nat.reduceMod]
      by_cases h3 : c.parent = c.iD
      · have : rightV c = 1 := by simp [rightV, idOk, hb1, hb2, h3]
        simp only [go_sem, Nat.reduceAdd, Nat.reduceSub, Nat.reduceMul, Nat.reduceBEq, Nat.reduceLT, Nat.reduceLeDiff, Nat.reduceEqDiff, Int.reduceToNat, Int.reduceLE, Int.reduceLT, Int.reduceAdd, Int.reduceSub, Int.reduceNeg, Int.reduceBEq, Int.reduceBNe, Nat.reduceBNe, Nat.reduceDiv, Nat.reduceMod, beqT h3, this]
      · simp only [go_sem, Nat.reduceAdd, Nat.reduceSub, Nat.reduceMul, Nat.reduceBEq, Nat.reduceLT, Nat.reduceLeDiff, Nat.reduceEqDiff, Int.reduceToNat, Int.reduceLE, Int.reduceLT, Int.reduceAdd, Int.reduceSub, Int.reduceNeg, Int.reduceBEq, Int.reduceBNe, Nat.reduceBNe, Nat.reduceDiv, Nat.reduceMod, beqF h3]
        have hid : idOk c = true := by simp [idOk, hb1, hb2, h3]
        have w1 : IntKind.i64.wrap 1 = 1 := by decide
        have w2 : IntKind.i64.wrap 2 = 2 := by decide
        have w3 : IntKind.i64.wrap 3 = 3 := by decide
        refine kont_for (RInv c) 3
          (s0 := ⟨[(1, .ptr 0 0 0 0), (2, dint 0), (30, .agg (c.rt.cells ++ (c.ls.cells ++ c.ul.cells))), (31, dint 0)], [⟨.one, 0, 14, 1, fun _ => c.cells⟩]⟩) (Weak.frame (by simp only [go_sem, Nat.reduceAdd, Nat.reduceSub, Nat.reduceMul, Nat.reduceBEq, Nat.reduceLT, Nat.reduceLeDiff, Nat.reduceEqDiff, Int.reduceToNat, Int.reduceLE, Int.reduceLT, Int.reduceAdd, Int.reduceSub, Int.reduceNeg, Int.reduceBEq, Int.reduceBNe, Nat.reduceBNe, Nat.reduceDiv, Nat.reduceMod])) ⟨by omega, by omega, by omega, rfl⟩ ?_
        rintro k s hk ⟨g0, g1, g2, rfl⟩
        obtain rfl | rfl | rfl | rfl : k = 0 ∨ k = 1 ∨ k = 2 ∨ k = 3 := by omega
        · refine kont_of_hx cx_ok hb 200 ?_
          simp only [go_sem, Nat.reduceAdd, Nat.reduceSub, Nat.reduceMul, Nat.reduceBEq, Nat.reduceLT, Nat.reduceLeDiff, Nat.reduceEqDiff, Int.reduceToNat, Int.reduceLE, Int.reduceLT, Int.reduceAdd, Int.reduceSub, Int.reduceNeg, Int.reduceBEq, Int.reduceBNe, Nat.reduceBNe, Nat.reduceDiv, Nat.reduceMod]
          refine kont_call hb fn49 rfl ?_ (crightI_ok c.rt) (Ret.flat rfl) rfl fun d h hR => ?_
          · simp only [go_sem, Nat.reduceAdd, Nat.reduceSub, Nat.reduceMul, Nat.reduceBEq, Nat.reduceLT, Nat.reduceLeDiff, Nat.reduceEqDiff, Int.reduceToNat, Int.reduceLE, Int.reduceLT, Int.reduceAdd, Int.reduceSub, Int.reduceNeg, Int.reduceBEq, Int.reduceBNe, Nat.reduceBNe, Nat.reduceDiv, Nat.reduceMod]
          obtain ⟨rfl, rfl⟩ := hR
          refine kont_of_hx cx_ok hb 200 ?_
          simp only [go_sem, Nat.reduceAdd, Nat.reduceSub, Nat.reduceMul, Nat.reduceBEq, Nat.reduceLT, Nat.reduceLeDiff, Nat.reduceEqDiff, Int.reduceToNat, Int.reduceLE, Int.reduceLT, Int.reduceAdd, Int.reduceSub, Int.reduceNeg, Int.reduceBEq, Int.reduceBNe, Nat.reduceBNe, Nat.reduceDiv, Nat.reduceMod]
          by_cases r0 : ofI c.rt = 0
          · have : rightV c = 21 := by simp [rightV, hid, cvOk, r0]
            simp only [go_sem, Nat.reduceAdd, Nat.reduceSub, Nat.reduceMul, Nat.reduceBEq, Nat.reduceLT, Nat.reduceLeDiff, Nat.reduceEqDiff, Int.reduceToNat, Int.reduceLE, Int.reduceLT, Int.reduceAdd, Int.reduceSub, Int.reduceNeg, Int.reduceBEq, Int.reduceBNe, Nat.reduceBNe, Nat.reduceDiv, Nat.reduceMod, beqT r0, bne, this, Go.undef]
          · simp only [go_sem, Nat.reduceAdd, Nat.reduceSub, Nat.reduceMul, Nat.reduceBEq, Nat.reduceLT, Nat.reduceLeDiff, Nat.reduceEqDiff, Int.reduceToNat, Int.reduceLE, Int.reduceLT, Int.reduceAdd, Int.reduceSub, Int.reduceNeg, Int.reduceBEq, Int.reduceBNe, Nat.reduceBNe, Nat.reduceDiv, Nat.reduceMod, beqF r0, bne, Go.undef]
            refine ⟨_, Weak.to 1 ⟨?_, by simp only [go_sem, Nat.reduceAdd, Nat.reduceSub, Nat.reduceMul, Nat.reduceBEq, Nat.reduceLT, Nat.reduceLeDiff, Nat.reduceEqDiff, Int.reduceToNat, Int.reduceLE, Int.reduceLT, Int.reduceAdd, Int.reduceSub, Int.reduceNeg, Int.reduceBEq, Int.reduceBNe, Nat.reduceBNe, Nat.reduceDiv, Nat.reduceMod], ?_, ?_⟩, ⟨fun _ => r0, by omega, by omega, rfl⟩⟩ <;> simp only [go_sem, Nat.reduceAdd, Nat.reduceSub, Nat.reduceMul, Nat.reduceBEq, Nat.reduceLT, Nat.reduceLeDiff, Nat.reduceEqDiff, Int.reduceToNat, Int.reduceLE, Int.reduceLT, Int.reduceAdd, Int.reduceSub, Int.reduceNeg, Int.reduceBEq, Int.reduceBNe, Nat.reduceBNe, Nat.reduceDiv, Nat.reduceMod, w1, w2, w3]
        · refine kont_of_hx cx_ok hb 200 ?_
          simp only [go_sem, Nat.reduceAdd, Nat.reduceSub, Nat.reduceMul, Nat.reduceBEq, Nat.reduceLT, Nat.reduceLeDiff, Nat.reduceEqDiff, Int.reduceToNat, Int.reduceLE, Int.reduceLT, Int.reduceAdd, Int.reduceSub, Int.reduceNeg, Int.reduceBEq, Int.reduceBNe, Nat.reduceBNe, Nat.reduceDiv, Nat.reduceMod]
          refine kont_call hb fn49 rfl ?_ (crightI_ok c.ls) (Ret.flat rfl) rfl fun d h hR => ?_
          · simp only [go_sem, Nat.reduceAdd, Nat.reduceSub, Nat.reduceMul, Nat.reduceBEq, Nat.reduceLT, Nat.reduceLeDiff, Nat.reduceEqDiff, Int.reduceToNat, Int.reduceLE, Int.reduceLT, Int.reduceAdd, Int.reduceSub, Int.reduceNeg, Int.reduceBEq, Int.reduceBNe, Nat.reduceBNe, Nat.reduceDiv, Nat.reduceMod]
          obtain ⟨rfl, rfl⟩ := hR
          refine kont_of_hx cx_ok hb 200 ?_
          simp only [go_sem, Nat.reduceAdd, Nat.reduceSub, Nat.reduceMul, Nat.reduceBEq, Nat.reduceLT, Nat.reduceLeDiff, Nat.reduceEqDiff, Int.reduceToNat, Int.reduceLE, Int.reduceLT, Int.reduceAdd, Int.reduceSub, Int.reduceNeg, Int.reduceBEq, Int.reduceBNe, Nat.reduceBNe, Nat.reduceDiv, Nat.reduceMod]
          by_cases r0 : ofI c.ls = 0
          · have : rightV c = 21 := by simp [rightV, hid, cvOk, r0]
            simp only [go_sem, Nat.reduceAdd, Nat.reduceSub, Nat.reduceMul, Nat.reduceBEq, Nat.reduceLT, Nat.reduceLeDiff, Nat.reduceEqDiff, Int.reduceToNat, Int.reduceLE, Int.reduceLT, Int.reduceAdd, Int.reduceSub, Int.reduceNeg, Int.reduceBEq, Int.reduceBNe, Nat.reduceBNe, Nat.reduceDiv, Nat.reduceMod, beqT r0, bne, this, Go.undef]
          · simp only [go_sem, Nat.reduceAdd, Nat.reduceSub, Nat.reduceMul, Nat.reduceBEq, Nat.reduceLT, Nat.reduceLeDiff, Nat.reduceEqDiff, Int.reduceToNat, Int.reduceLE, Int.reduceLT, Int.reduceAdd, Int.reduceSub, Int.reduceNeg, Int.reduceBEq, Int.reduceBNe, Nat.reduceBNe, Nat.reduceDiv, Nat.reduceMod, beqF r0, bne, Go.undef]
            refine kont_call hb fn63 rfl ?_ (ofcI_ok c.ls) (Ret.flat rfl) rfl fun d h hR => ?_
            · simp only [go_sem, Nat.reduceAdd, Nat.reduceSub, Nat.reduceMul, Nat.reduceBEq, Nat.reduceLT, Nat.reduceLeDiff, Nat.reduceEqDiff, Int.reduceToNat, Int.reduceLE, Int.reduceLT, Int.reduceAdd, Int.reduceSub, Int.reduceNeg, Int.reduceBEq, Int.reduceBNe, Nat.reduceBNe, Nat.reduceDiv, Nat.reduceMod]
            obtain ⟨rfl, rfl⟩ := hR
            refine kont_of_hx cx_ok hb 200 ?_
            simp only [go_sem, Nat.reduceAdd, Nat.reduceSub, Nat.reduceMul, Nat.reduceBEq, Nat.reduceLT, Nat.reduceLeDiff, Nat.reduceEqDiff, Int.reduceToNat, Int.reduceLE, Int.reduceLT, Int.reduceAdd, Int.reduceSub, Int.reduceNeg, Int.reduceBEq, Int.reduceBNe, Nat.reduceBNe, Nat.reduceDiv, Nat.reduceMod]
            by_cases r4 : ofI c.ls = 4
            · have : rightV c = 21 := by simp [rightV, hid, cvOk, r4]
              simp only [go_sem, Nat.reduceAdd, Nat.reduceSub, Nat.reduceMul, Nat.reduceBEq, Nat.reduceLT, Nat.reduceLeDiff, Nat.reduceEqDiff, Int.reduceToNat, Int.reduceLE, Int.reduceLT, Int.reduceAdd, Int.reduceSub, Int.reduceNeg, Int.reduceBEq, Int.reduceBNe, Nat.reduceBNe, Nat.reduceDiv, Nat.reduceMod, beqT r4, this, Go.undef]
            · simp only [go_sem, Nat.reduceAdd, Nat.reduceSub, Nat.reduceMul, Nat.reduceBEq, Nat.reduceLT, Nat.reduceLeDiff, Nat.reduceEqDiff, Int.reduceToNat, Int.reduceLE, Int.reduceLT, Int.reduceAdd, Int.reduceSub, Int.reduceNeg, Int.reduceBEq, Int.reduceBNe, Nat.reduceBNe, Nat.reduceDiv, Nat.reduceMod, beqF r4, Go.undef]
              refine ⟨_, Weak.to 1 ⟨?_, by simp only [go_sem, Nat.reduceAdd, Nat.reduceSub, Nat.reduceMul, Nat.reduceBEq, Nat.reduceLT, Nat.reduceLeDiff, Nat.reduceEqDiff, Int.reduceToNat, Int.reduceLE, Int.reduceLT, Int.reduceAdd, Int.reduceSub, Int.reduceNeg, Int.reduceBEq, Int.reduceBNe, Nat.reduceBNe, Nat.reduceDiv, Nat.reduceMod], ?_, ?_⟩, ⟨fun _ => g0 (by omega), fun _ => ⟨r0, r4⟩, by omega, rfl⟩⟩ <;> simp only [go_sem, Nat.reduceAdd, Nat.reduceSub, Nat.reduceMul, Nat.reduceBEq, Nat.reduceLT, Nat.reduceLeDiff, Nat.reduceEqDiff, Int.reduceToNat, Int.reduceLE, Int.reduceLT, Int.reduceAdd, Int.reduceSub, Int.reduceNeg, Int.reduceBEq, Int.reduceBNe, Nat.reduceBNe, Nat.reduceDiv, Nat.reduceMod, w1, w2, w3]
        · refine kont_of_hx cx_ok hb 200 ?_
          simp only [go_sem, Nat.reduceAdd, Nat.reduceSub, Nat.reduceMul, Nat.reduceBEq, Nat.reduceLT, Nat.reduceLeDiff, Nat.reduceEqDiff, Int.reduceToNat, Int.reduceLE, Int.reduceLT, Int.reduceAdd, Int.reduceSub, Int.reduceNeg, Int.reduceBEq, Int.reduceBNe, Nat.reduceBNe, Nat.reduceDiv, Nat.reduceMod]
          refine kont_call hb fn49 rfl ?_ (crightI_ok c.ul) (Ret.flat rfl) rfl fun d h hR => ?_
          · simp only [go_sem, Nat.reduceAdd, Nat.reduceSub, Nat.reduceMul, Nat.reduceBEq, Nat.reduceLT, Nat.reduceLeDiff, Nat.reduceEqDiff, Int.reduceToNat, Int.reduceLE, Int.reduceLT, Int.reduceAdd, Int.reduceSub, Int.reduceNeg, Int.reduceBEq, Int.reduceBNe, Nat.reduceBNe, Nat.reduceDiv, Nat.reduceMod]
          obtain ⟨rfl, rfl⟩ := hR
          refine kont_of_hx cx_ok hb 200 ?_
          simp only [go_sem, Nat.reduceAdd, Nat.reduceSub, Nat.reduceMul, Nat.reduceBEq, Nat.reduceLT, Nat.reduceLeDiff, Nat.reduceEqDiff, Int.reduceToNat, Int.reduceLE, Int.reduceLT, Int.reduceAdd, Int.reduceSub, Int.reduceNeg, Int.reduceBEq, Int.reduceBNe, Nat.reduceBNe, Nat.reduceDiv, Nat.reduceMod]
          by_cases r0 : ofI c.ul = 0
          · have : rightV c = 21 := by simp [rightV, hid, cvOk, r0]
            simp only [go_sem, Nat.reduceAdd, Nat.reduceSub, Nat.reduceMul, Nat.reduceBEq, Nat.reduceLT, Nat.reduceLeDiff, Nat.reduceEqDiff, Int.reduceToNat, Int.reduceLE, Int.reduceLT, Int.reduceAdd, Int.reduceSub, Int.reduceNeg, Int.reduceBEq, Int.reduceBNe, Nat.reduceBNe, Nat.reduceDiv, Nat.reduceMod, beqT r0, bne, this, Go.undef]
          · simp only [go_sem, Nat.reduceAdd, Nat.reduceSub, Nat.reduceMul, Nat.reduceBEq, Nat.reduceLT, Nat.reduceLeDiff, Nat.reduceEqDiff, Int.reduceToNat, Int.reduceLE, Int.reduceLT, Int.reduceAdd, Int.reduceSub, Int.reduceNeg, Int.reduceBEq, Int.reduceBNe, Nat.reduceBNe, Nat.reduceDiv, Nat.reduceMod, beqF r0, bne, Go.undef]
            refine kont_call hb fn63 rfl ?_ (ofcI_ok c.ul) (Ret.flat rfl) rfl fun d h hR => ?_
            · simp only [go_sem, Nat.reduceAdd, Nat.reduceSub, Nat.reduceMul, Nat.reduceBEq, Nat.reduceLT, Nat.reduceLeDiff, Nat.reduceEqDiff, Int.reduceToNat, Int.reduceLE, Int.reduceLT, Int.reduceAdd, Int.reduceSub, Int.reduceNeg, Int.reduceBEq, Int.reduceBNe, Nat.reduceBNe, Nat.reduceDiv, Nat.reduceMod]
            obtain ⟨rfl, rfl⟩ := hR
            refine kont_of_hx cx_ok hb 200 ?_
            simp only [go_sem, Nat.reduceAdd, Nat.reduceSub, Nat.reduceMul, Nat.reduceBEq, Nat.reduceLT, Nat.reduceLeDiff, Nat.reduceEqDiff, Int.reduceToNat, Int.reduceLE, Int.reduceLT, Int.reduceAdd, Int.reduceSub, Int.reduceNeg, Int.reduceBEq, Int.reduceBNe, Nat.reduceBNe, Nat.reduceDiv, Nat.reduceMod]
            by_cases r4 : ofI c.ul = 4
            · have : rightV c = 21 := by simp [rightV, hid, cvOk, r4]
              simp only [go_sem, Nat.reduceAdd, Nat.reduceSub, Nat.reduceMul, Nat.reduceBEq, Nat.reduceLT, Nat.reduceLeDiff, Nat.reduceEqDiff, Int.reduceToNat, Int.reduceLE, Int.reduceLT, Int.reduceAdd, Int.reduceSub, Int.reduceNeg, Int.reduceBEq, Int.reduceBNe, Nat.reduceBNe, Nat.reduceDiv, Nat.reduceMod, beqT r4, this, Go.undef]
            · simp only [go_sem, Nat.reduceAdd, Nat.reduceSub, Nat.reduceMul, Nat.reduceBEq, Nat.reduceLT, Nat.reduceLeDiff, Nat.reduceEqDiff, Int.reduceToNat, Int.reduceLE, Int.reduceLT, Int.reduceAdd, Int.reduceSub, Int.reduceNeg, Int.reduceBEq, Int.reduceBNe, Nat.reduceBNe, Nat.reduceDiv, Nat.reduceMod, beqF r4, Go.undef]
              refine ⟨_, Weak.to 1 ⟨?_, by simp only [go_sem, Nat.reduceAdd, Nat.reduceSub, Nat.reduceMul, Nat.reduceBEq, Nat.reduceLT, Nat.reduceLeDiff, Nat.reduceEqDiff, Int.reduceToNat, Int.reduceLE, Int.reduceLT, Int.reduceAdd, Int.reduceSub, Int.reduceNeg, Int.reduceBEq, Int.reduceBNe, Nat.reduceBNe, Nat.reduceDiv, Nat.reduceMod], ?_, ?_⟩, ⟨fun _ => g0 (by omega), fun _ => g1 (by omega), fun _ => ⟨r0, r4⟩, rfl⟩⟩ <;> simp only [go_sem, Nat.reduceAdd, Nat.reduceSub, Nat.reduceMul, Nat.reduceBEq, Nat.reduceLT, Nat.reduceLeDiff, Nat.reduceEqDiff, Int.reduceToNat, Int.reduceLE, Int.reduceLT, Int.reduceAdd, Int.reduceSub, Int.reduceNeg, Int.reduceBEq, Int.reduceBNe, Nat.reduceBNe, Nat.reduceDiv, Nat.reduceMod, w1, w2, w3]
        · have hcv : cvOk c = true := by
            have a := g0 (by omega); have b := g1 (by omega); have d := g2 (by omega)
            simp [cvOk, a, b, d]
          clear g0 g1 g2
          refine kont_of_hx cx_ok hb 200 ?_
          simp only [go_sem, Nat.reduceAdd, Nat.reduceSub, Nat.reduceMul, Nat.reduceBEq, Nat.reduceLT, Nat.reduceLeDiff, Nat.reduceEqDiff, Int.reduceToNat, Int.reduceLE, Int.reduceLT, Int.reduceAdd, Int.reduceSub, Int.reduceNeg, Int.reduceBEq, Int.reduceBNe, Nat.reduceBNe, Nat.reduceDiv, Nat.reduceMod]
          first | refine kont_seq ?_ | skip
          refine kont_joinF [1, 2] [(5, dbool (leafOk c))] rfl ?_ ?_
          · refine kont_of_hx cx_ok hb 200 ?_
            simp only [go_sem, Nat.reduceAdd, Nat.reduceSub, Nat.reduceMul, Nat.reduceBEq, Nat.reduceLT, Nat.reduceLeDiff, Nat.reduceEqDiff, Int.reduceToNat, Int.reduceLE, Int.reduceLT, Int.reduceAdd, Int.reduceSub, Int.reduceNeg, Int.reduceBEq, Int.reduceBNe, Nat.reduceBNe, Nat.reduceDiv, Nat.reduceMod]
            refine kont_call hb fn62 rfl ?_ (sfrom_ok c.pkts 1 64) (Ret.flat rfl) rfl fun d h hR => ?_
            · simp only [go_sem, Nat.reduceAdd, Nat.reduceSub, Nat.reduceMul, Nat.reduceBEq, Nat.reduceLT, Nat.reduceLeDiff, Nat.reduceEqDiff, Int.reduceToNat, Int.reduceLE, Int.reduceLT, Int.reduceAdd, Int.reduceSub, Int.reduceNeg, Int.reduceBEq, Int.reduceBNe, Nat.reduceBNe, Nat.reduceDiv, Nat.reduceMod]
            obtain ⟨rfl, rfl⟩ := hR
            refine kont_of_hx cx_ok hb 200 ?_
            simp only [go_sem, Nat.reduceAdd, Nat.reduceSub, Nat.reduceMul, Nat.reduceBEq, Nat.reduceLT, Nat.reduceLeDiff, Nat.reduceEqDiff, Int.reduceToNat, Int.reduceLE, Int.reduceLT, Int.reduceAdd, Int.reduceSub, Int.reduceNeg, Int.reduceBEq, Int.reduceBNe, Nat.reduceBNe, Nat.reduceDiv, Nat.reduceMod]
            cases hp : frI c.pkts 1 64
            · have e : leafOk c = false := by simp [leafOk, hp]
              simp only [go_sem, Nat.reduceAdd, Nat.reduceSub, Nat.reduceMul, Nat.reduceBEq, Nat.reduceLT, Nat.reduceLeDiff, Nat.reduceEqDiff, Int.reduceToNat, Int.reduceLE, Int.reduceLT, Int.reduceAdd, Int.reduceSub, Int.reduceNeg, Int.reduceBEq, Int.reduceBNe, Nat.reduceBNe, Nat.reduceDiv, Nat.reduceMod, Go.undef]
              exact Weak.to 1 (by (simp only [go_sem, Nat.reduceAdd, Nat.reduceSub, Nat.reduceMul, Nat.reduceBEq, Nat.reduceLT, Nat.reduceLeDiff, Nat.reduceEqDiff, Int.reduceToNat, Int.reduceLE, Int.reduceLT, Int.reduceAdd, Int.reduceSub, Int.reduceNeg, Int.reduceBEq, Int.reduceBNe, Nat.reduceBNe, Nat.reduceDiv, Nat.reduceMod, e]) <;> simp)
            · simp only [go_sem, Nat.reduceAdd, Nat.reduceSub, Nat.reduceMul, Nat.reduceBEq, Nat.reduceLT, Nat.reduceLeDiff, Nat.reduceEqDiff, Int.reduceToNat, Int.reduceLE, Int.reduceLT, Int.reduceAdd, Int.reduceSub, Int.reduceNeg, Int.reduceBEq, Int.reduceBNe, Nat.reduceBNe, Nat.reduceDiv, Nat.reduceMod, Go.undef]
              refine kont_call hb fn62 rfl ?_ (sfrom_ok c.bytes 1 1048576) (Ret.flat rfl) rfl fun d h hR => ?_
              · simp only [go_sem, Nat.reduceAdd, Nat.reduceSub, Nat.reduceMul, Nat.reduceBEq, Nat.reduceLT, Nat.reduceLeDiff, Nat.reduceEqDiff, Int.reduceToNat, Int.reduceLE, Int.reduceLT, Int.reduceAdd, Int.reduceSub, Int.reduceNeg, Int.reduceBEq, Int.reduceBNe, Nat.reduceBNe, Nat.reduceDiv, Nat.reduceMod]
              obtain ⟨rfl, rfl⟩ := hR
              refine kont_of_hx cx_ok hb 200 ?_
              simp only [go_sem, Nat.reduceAdd, Nat.reduceSub, Nat.reduceMul, Nat.reduceBEq, Nat.reduceLT, Nat.reduceLeDiff, Nat.reduceEqDiff, Int.reduceToNat, Int.reduceLE, Int.reduceLT, Int.reduceAdd, Int.reduceSub, Int.reduceNeg, Int.reduceBEq, Int.reduceBNe, Nat.reduceBNe, Nat.reduceDiv, Nat.reduceMod]
              cases hq : frI c.bytes 1 1048576
              · have e : leafOk c = false := by simp [leafOk, hp, hq]
                simp only [go_sem, Nat.reduceAdd, Nat.reduceSub, Nat.reduceMul, Nat.reduceBEq, Nat.reduceLT, Nat.reduceLeDiff, Nat.reduceEqDiff, Int.reduceToNat, Int.reduceLE, Int.reduceLT, Int.reduceAdd, Int.reduceSub, Int.reduceNeg, Int.reduceBEq, Int.reduceBNe, Nat.reduceBNe, Nat.reduceDiv, Nat.reduceMod, Go.undef]
                exact Weak.to 1 (by (simp only [go_sem, Nat.reduceAdd, Nat.reduceSub, Nat.reduceMul, Nat.reduceBEq, Nat.reduceLT, Nat.reduceLeDiff, Nat.reduceEqDiff, Int.reduceToNat, Int.reduceLE, Int.reduceLT, Int.reduceAdd, Int.reduceSub, Int.reduceNeg, Int.reduceBEq, Int.reduceBNe, Nat.reduceBNe, Nat.reduceDiv, Nat.reduceMod, e]) <;> simp)
              · simp only [go_sem, Nat.reduceAdd, Nat.reduceSub, Nat.reduceMul, Nat.reduceBEq, Nat.reduceLT, Nat.reduceLeDiff, Nat.reduceEqDiff, Int.reduceToNat, Int.reduceLE, Int.reduceLT, Int.reduceAdd, Int.reduceSub, Int.reduceNeg, Int.reduceBEq, Int.reduceBNe, Nat.reduceBNe, Nat.reduceDiv, Nat.reduceMod, Go.undef]
                refine kont_call hb fn64 rfl ?_ (sreal_ok c) (Ret.flat rfl) rfl fun d h hR => ?_
                · simp only [go_sem, Nat.reduceAdd, Nat.reduceSub, Nat.reduceMul, Nat.reduceBEq, Nat.reduceLT, Nat.reduceLeDiff, Nat.reduceEqDiff, Int.reduceToNat, Int.reduceLE, Int.reduceLT, Int.reduceAdd, Int.reduceSub, Int.reduceNeg, Int.reduceBEq, Int.reduceBNe, Nat.reduceBNe, Nat.reduceDiv, Nat.reduceMod]
                obtain ⟨rfl, rfl⟩ := hR
                refine kont_of_hx cx_ok hb 200 ?_
                simp only [go_sem, Nat.reduceAdd, Nat.reduceSub, Nat.reduceMul, Nat.reduceBEq, Nat.reduceLT, Nat.reduceLeDiff, Nat.reduceEqDiff, Int.reduceToNat, Int.reduceLE, Int.reduceLT, Int.reduceAdd, Int.reduceSub, Int.reduceNeg, Int.reduceBEq, Int.reduceBNe, Nat.reduceBNe, Nat.reduceDiv, Nat.reduceMod]
                cases hr : decide (1 < ofI c.rt)
                · simp only [go_sem, Nat.reduceAdd, Nat.reduceSub, Nat.reduceMul, Nat.reduceBEq, Nat.reduceLT, Nat.reduceLeDiff, Nat.reduceEqDiff, Int.reduceToNat, Int.reduceLE, Int.reduceLT, Int.reduceAdd, Int.reduceSub, Int.reduceNeg, Int.reduceBEq, Int.reduceBNe, Nat.reduceBNe, Nat.reduceDiv, Nat.reduceMod, Go.undef]
                  refine kont_call hb fn32 rfl ?_ (sshares_ok c) (Ret.flat rfl) rfl fun d h hR => ?_
                  · simp only [go_sem, Nat.reduceAdd, Nat.reduceSub, Nat.reduceMul, Nat.reduceBEq, Nat.reduceLT, Nat.reduceLeDiff, Nat.reduceEqDiff, Int.reduceToNat, Int.reduceLE, Int.reduceLT, Int.reduceAdd, Int.reduceSub, Int.reduceNeg, Int.reduceBEq, Int.reduceBNe, Nat.reduceBNe, Nat.reduceDiv, Nat.reduceMod]
                  obtain ⟨rfl, rfl⟩ := hR
                  refine kont_of_hx cx_ok hb 200 ?_
                  simp only [go_sem, Nat.reduceAdd, Nat.reduceSub, Nat.reduceMul, Nat.reduceBEq, Nat.reduceLT, Nat.reduceLeDiff, Nat.reduceEqDiff, Int.reduceToNat, Int.reduceLE, Int.reduceLT, Int.reduceAdd, Int.reduceSub, Int.reduceNeg, Int.reduceBEq, Int.reduceBNe, Nat.reduceBNe, Nat.reduceDiv, Nat.reduceMod]
                  have e : leafOk c = decide (1 < ofI c.ls) := by simp [leafOk, hp, hq, hr]
                  exact Weak.to 1 (by (simp only [go_sem, Nat.reduceAdd, Nat.reduceSub, Nat.reduceMul, Nat.reduceBEq, Nat.reduceLT, Nat.reduceLeDiff, Nat.reduceEqDiff, Int.reduceToNat, Int.reduceLE, Int.reduceLT, Int.reduceAdd, Int.reduceSub, Int.reduceNeg, Int.reduceBEq, Int.reduceBNe, Nat.reduceBNe, Nat.reduceDiv, Nat.reduceMod, e]) <;> simp)
                · have e : leafOk c = true := by simp [leafOk, hp, hq, hr]
                  simp only [go_sem, Nat.reduceAdd, Nat.reduceSub, Nat.reduceMul, Nat.reduceBEq, Nat.reduceLT, Nat.reduceLeDiff, Nat.reduceEqDiff, Int.reduceToNat, Int.reduceLE, Int.reduceLT, Int.reduceAdd, Int.reduceSub, Int.reduceNeg, Int.reduceBEq, Int.reduceBNe, Nat.reduceBNe, Nat.reduceDiv, Nat.reduceMod, Go.undef]
                  exact Weak.to 1 (by (simp only [go_sem, Nat.reduceAdd, Nat.reduceSub, Nat.reduceMul, Nat.reduceBEq, Nat.reduceLT, Nat.reduceLeDiff, Nat.reduceEqDiff, Int.reduceToNat, Int.reduceLE, Int.reduceLT, Int.reduceAdd, Int.reduceSub, Int.reduceNeg, Int.reduceBEq, Int.reduceBNe, Nat.reduceBNe, Nat.reduceDiv, Nat.reduceMod, e]) <;> simp)
          first | refine kont_seq ?_ | skip
          refine kont_joinF [1, 2, 5] [(6, dbool (innerOk c))] rfl ?_ ?_
          · refine kont_of_hx cx_ok hb 200 ?_
            simp only [go_sem, Nat.reduceAdd, Nat.reduceSub, Nat.reduceMul, Nat.reduceBEq, Nat.reduceLT, Nat.reduceLeDiff, Nat.reduceEqDiff, Int.reduceToNat, Int.reduceLE, Int.reduceLT, Int.reduceAdd, Int.reduceSub, Int.reduceNeg, Int.reduceBEq, Int.reduceBNe, Nat.reduceBNe, Nat.reduceDiv, Nat.reduceMod]
            by_cases hp : c.pkts = 0
            · simp only [go_sem, Nat.reduceAdd, Nat.reduceSub, Nat.reduceMul, Nat.reduceBEq, Nat.reduceLT, Nat.reduceLeDiff, Nat.reduceEqDiff, Int.reduceToNat, Int.reduceLE, Int.reduceLT, Int.reduceAdd, Int.reduceSub, Int.reduceNeg, Int.reduceBEq, Int.reduceBNe, Nat.reduceBNe, Nat.reduceDiv, Nat.reduceMod, beqT hp, Go.undef]
              by_cases hq : c.bytes = 0
              · simp only [go_sem, Nat.reduceAdd, Nat.reduceSub, Nat.reduceMul, Nat.reduceBEq, Nat.reduceLT, Nat.reduceLeDiff, Nat.reduceEqDiff, Int.reduceToNat, Int.reduceLE, Int.reduceLT, Int.reduceAdd, Int.reduceSub, Int.reduceNeg, Int.reduceBEq, Int.reduceBNe, Nat.reduceBNe, Nat.reduceDiv, Nat.reduceMod, beqT hq, Go.undef]
                refine kont_call hb fn64 rfl ?_ (sreal_ok c) (Ret.flat rfl) rfl fun d h hR => ?_
                · simp only [go_sem, Nat.reduceAdd, Nat.reduceSub, Nat.reduceMul, Nat.reduceBEq, Nat.reduceLT, Nat.reduceLeDiff, Nat.reduceEqDiff, Int.reduceToNat, Int.reduceLE, Int.reduceLT, Int.reduceAdd, Int.reduceSub, Int.reduceNeg, Int.reduceBEq, Int.reduceBNe, Nat.reduceBNe, Nat.reduceDiv, Nat.reduceMod]
                obtain ⟨rfl, rfl⟩ := hR
                refine kont_of_hx cx_ok hb 200 ?_
                simp only [go_sem, Nat.reduceAdd, Nat.reduceSub, Nat.reduceMul, Nat.reduceBEq, Nat.reduceLT, Nat.reduceLeDiff, Nat.reduceEqDiff, Int.reduceToNat, Int.reduceLE, Int.reduceLT, Int.reduceAdd, Int.reduceSub, Int.reduceNeg, Int.reduceBEq, Int.reduceBNe, Nat.reduceBNe, Nat.reduceDiv, Nat.reduceMod]
                have e : innerOk c = !decide (1 < ofI c.rt) := by simp [innerOk, hp, hq]
                exact Weak.to 1 (by (simp only [go_sem, Nat.reduceAdd, Nat.reduceSub, Nat.reduceMul, Nat.reduceBEq, Nat.reduceLT, Nat.reduceLeDiff, Nat.reduceEqDiff, Int.reduceToNat, Int.reduceLE, Int.reduceLT, Int.reduceAdd, Int.reduceSub, Int.reduceNeg, Int.reduceBEq, Int.reduceBNe, Nat.reduceBNe, Nat.reduceDiv, Nat.reduceMod, e]) <;> simp)
              · have e : innerOk c = false := by simp [innerOk, hp, hq]
                simp only [go_sem, Nat.reduceAdd, Nat.reduceSub, Nat.reduceMul, Nat.reduceBEq, Nat.reduceLT, Nat.reduceLeDiff, Nat.reduceEqDiff, Int.reduceToNat, Int.reduceLE, Int.reduceLT, Int.reduceAdd, Int.reduceSub, Int.reduceNeg, Int.reduceBEq, Int.reduceBNe, Nat.reduceBNe, Nat.reduceDiv, Nat.reduceMod, beqF hq, Go.undef]
                exact Weak.to 1 (by (simp only [go_sem, Nat.reduceAdd, Nat.reduceSub, Nat.reduceMul, Nat.reduceBEq, Nat.reduceLT, Nat.reduceLeDiff, Nat.reduceEqDiff, Int.reduceToNat, Int.reduceLE, Int.reduceLT, Int.reduceAdd, Int.reduceSub, Int.reduceNeg, Int.reduceBEq, Int.reduceBNe, Nat.reduceBNe, Nat.reduceDiv, Nat.reduceMod, e]) <;> simp)
            · have e : innerOk c = false := by simp [innerOk, hp]
              simp only [go_sem, Nat.reduceAdd, Nat.reduceSub, Nat.reduceMul, Nat.reduceBEq, Nat.reduceLT, Nat.reduceLeDiff, Nat.reduceEqDiff, Int.reduceToNat, Int.reduceLE, Int.reduceLT, Int.reduceAdd, Int.reduceSub, Int.reduceNeg, Int.reduceBEq, Int.reduceBNe, Nat.reduceBNe, Nat.reduceDiv, Nat.reduceMod, beqF hp, Go.undef]
              exact Weak.to 1 (by (simp only [go_sem, Nat.reduceAdd, Nat.reduceSub, Nat.reduceMul, Nat.reduceBEq, Nat.reduceLT, Nat.reduceLeDiff, Nat.reduceEqDiff, Int.reduceToNat, Int.reduceLE, Int.reduceLT, Int.reduceAdd, Int.reduceSub, Int.reduceNeg, Int.reduceBEq, Int.reduceBNe, Nat.reduceBNe, Nat.reduceDiv, Nat.reduceMod, e]) <;> simp)
          refine kont_of_hx cx_ok hb 200 ?_
          simp only [go_sem, Nat.reduceAdd, Nat.reduceSub, Nat.reduceMul, Nat.reduceBEq, Nat.reduceLT, Nat.reduceLeDiff, Nat.reduceEqDiff, Int.reduceToNat, Int.reduceLE, Int.reduceLT, Int.reduceAdd, Int.reduceSub, Int.reduceNeg, Int.reduceBEq, Int.reduceBNe, Nat.reduceBNe, Nat.reduceDiv, Nat.reduceMod]
          have hv : rightV c = if (c.leaf && !leafOk c) || (!c.leaf && !innerOk c) || (decide (1 < ofI c.ul) && !decide (1 < ofI c.ls)) then 29 else 0 := by simp [rightV, hid, hcv]
          generalize leafOk c = lo at hv ⊢
          generalize innerOk c = io at hv ⊢
          cases hl : c.leaf <;> rw [hl] at hv
          · cases io
            · simp at hv
              simp only [go_sem, Nat.reduceAdd, Nat.reduceSub, Nat.reduceMul, Nat.reduceBEq, Nat.reduceLT, Nat.reduceLeDiff, Nat.reduceEqDiff, Int.reduceToNat, Int.reduceLE, Int.reduceLT, Int.reduceAdd, Int.reduceSub, Int.reduceNeg, Int.reduceBEq, Int.reduceBNe, Nat.reduceBNe, Nat.reduceDiv, Nat.reduceMod, Go.undef, hv]
            · simp only [go_sem, Nat.reduceAdd, Nat.reduceSub, Nat.reduceMul, Nat.reduceBEq, Nat.reduceLT, Nat.reduceLeDiff, Nat.reduceEqDiff, Int.reduceToNat, Int.reduceLE, Int.reduceLT, Int.reduceAdd, Int.reduceSub, Int.reduceNeg, Int.reduceBEq, Int.reduceBNe, Nat.reduceBNe, Nat.reduceDiv, Nat.reduceMod, Go.undef]
              refine kont_call hb fn65 rfl ?_ (scapped_ok c) (Ret.flat rfl) rfl fun d h hR => ?_
              · simp only [go_sem, Nat.reduceAdd, Nat.reduceSub, Nat.reduceMul, Nat.reduceBEq, Nat.reduceLT, Nat.reduceLeDiff, Nat.reduceEqDiff, Int.reduceToNat, Int.reduceLE, Int.reduceLT, Int.reduceAdd, Int.reduceSub, Int.reduceNeg, Int.reduceBEq, Int.reduceBNe, Nat.reduceBNe, Nat.reduceDiv, Nat.reduceMod, hl]
              obtain ⟨rfl, rfl⟩ := hR
              refine kont_of_hx cx_ok hb 200 ?_
              simp only [go_sem, Nat.reduceAdd, Nat.reduceSub, Nat.reduceMul, Nat.reduceBEq, Nat.reduceLT, Nat.reduceLeDiff, Nat.reduceEqDiff, Int.reduceToNat, Int.reduceLE, Int.reduceLT, Int.reduceAdd, Int.reduceSub, Int.reduceNeg, Int.reduceBEq, Int.reduceBNe, Nat.reduceBNe, Nat.reduceDiv, Nat.reduceMod, hl]
              cases hu : decide (1 < ofI c.ul) <;> rw [hu] at hv
              · simp at hv
                simp only [go_sem, Nat.reduceAdd, Nat.reduceSub, Nat.reduceMul, Nat.reduceBEq, Nat.reduceLT, Nat.reduceLeDiff, Nat.reduceEqDiff, Int.reduceToNat, Int.reduceLE, Int.reduceLT, Int.reduceAdd, Int.reduceSub, Int.reduceNeg, Int.reduceBEq, Int.reduceBNe, Nat.reduceBNe, Nat.reduceDiv, Nat.reduceMod, Go.undef, hv]
              · simp only [go_sem, Nat.reduceAdd, Nat.reduceSub, Nat.reduceMul, Nat.reduceBEq, Nat.reduceLT, Nat.reduceLeDiff, Nat.reduceEqDiff, Int.reduceToNat, Int.reduceLE, Int.reduceLT, Int.reduceAdd, Int.reduceSub, Int.reduceNeg, Int.reduceBEq, Int.reduceBNe, Nat.reduceBNe, Nat.reduceDiv, Nat.reduceMod, Go.undef]
                refine kont_call hb fn32 rfl ?_ (sshares_ok c) (Ret.flat rfl) rfl fun d h hR => ?_
                · simp only [go_sem, Nat.reduceAdd, Nat.reduceSub, Nat.reduceMul, Nat.reduceBEq, Nat.reduceLT, Nat.reduceLeDiff, Nat.reduceEqDiff, Int.reduceToNat, Int.reduceLE, Int.reduceLT, Int.reduceAdd, Int.reduceSub, Int.reduceNeg, Int.reduceBEq, Int.reduceBNe, Nat.reduceBNe, Nat.reduceDiv, Nat.reduceMod, hl]
                obtain ⟨rfl, rfl⟩ := hR
                refine kont_of_hx cx_ok hb 200 ?_
                simp only [go_sem, Nat.reduceAdd, Nat.reduceSub, Nat.reduceMul, Nat.reduceBEq, Nat.reduceLT, Nat.reduceLeDiff, Nat.reduceEqDiff, Int.reduceToNat, Int.reduceLE, Int.reduceLT, Int.reduceAdd, Int.reduceSub, Int.reduceNeg, Int.reduceBEq, Int.reduceBNe, Nat.reduceBNe, Nat.reduceDiv, Nat.reduceMod, hl]
                cases hs : decide (1 < ofI c.ls) <;> rw [hs] at hv <;> simp at hv <;> simp only [go_sem, Nat.reduceAdd, Nat.reduceSub, Nat.reduceMul, Nat.reduceBEq, Nat.reduceLT, Nat.reduceLeDiff, Nat.reduceEqDiff, Int.reduceToNat, Int.reduceLE, Int.reduceLT, Int.reduceAdd, Int.reduceSub, Int.reduceNeg, Int.reduceBEq, Int.reduceBNe, Nat.reduceBNe, Nat.reduceDiv, Nat.reduceMod, Go.undef, hv]
          · cases lo
            · simp at hv
              simp only [go_sem, Nat.reduceAdd, Nat.reduceSub, Nat.reduceMul, Nat.reduceBEq, Nat.reduceLT, Nat.reduceLeDiff, Nat.reduceEqDiff, Int.reduceToNat, Int.reduceLE, Int.reduceLT, Int.reduceAdd, Int.reduceSub, Int.reduceNeg, Int.reduceBEq, Int.reduceBNe, Nat.reduceBNe, Nat.reduceDiv, Nat.reduceMod, Go.undef, hv]
            · simp only [go_sem, Nat.reduceAdd, Nat.reduceSub, Nat.reduceMul, Nat.reduceBEq, Nat.reduceLT, Nat.reduceLeDiff, Nat.reduceEqDiff, Int.reduceToNat, Int.reduceLE, Int.reduceLT, Int.reduceAdd, Int.reduceSub, Int.reduceNeg, Int.reduceBEq, Int.reduceBNe, Nat.reduceBNe, Nat.reduceDiv, Nat.reduceMod, Go.undef]
              refine kont_call hb fn65 rfl ?_ (scapped_ok c) (Ret.flat rfl) rfl fun d h hR => ?_
              · simp only [go_sem, Nat.reduceAdd, Nat.reduceSub, Nat.reduceMul, Nat.reduceBEq, Nat.reduceLT, Nat.reduceLeDiff, Nat.reduceEqDiff, Int.reduceToNat, Int.reduceLE, Int.reduceLT, Int.reduceAdd, Int.reduceSub, Int.reduceNeg, Int.reduceBEq, Int.reduceBNe, Nat.reduceBNe, Nat.reduceDiv, Nat.reduceMod, hl]
              obtain ⟨rfl, rfl⟩ := hR
              refine kont_of_hx cx_ok hb 200 ?_
              simp only [go_sem, Nat.reduceAdd, Nat.reduceSub, Nat.reduceMul, Nat.reduceBEq, Nat.reduceLT, Nat.reduceLeDiff, Nat.reduceEqDiff, Int.reduceToNat, Int.reduceLE, Int.reduceLT, Int.reduceAdd, Int.reduceSub, Int.reduceNeg, Int.reduceBEq, Int.reduceBNe, Nat.reduceBNe, Nat.reduceDiv, Nat.reduceMod, hl]
              cases hu : decide (1 < ofI c.ul) <;> rw [hu] at hv
              · simp at hv
                simp only [go_sem, Nat.reduceAdd, Nat.reduceSub, Nat.reduceMul, Nat.reduceBEq, Nat.reduceLT, Nat.reduceLeDiff, Nat.reduceEqDiff, Int.reduceToNat, Int.reduceLE, Int.reduceLT, Int.reduceAdd, Int.reduceSub, Int.reduceNeg, Int.reduceBEq, Int.reduceBNe, Nat.reduceBNe, Nat.reduceDiv, Nat.reduceMod, Go.undef, hv]
              · simp only [go_sem, Nat.reduceAdd, Nat.reduceSub, Nat.reduceMul, Nat.reduceBEq, Nat.reduceLT, Nat.reduceLeDiff, Nat.reduceEqDiff, Int.reduceToNat, Int.reduceLE, Int.reduceLT, Int.reduceAdd, Int.reduceSub, Int.reduceNeg, Int.reduceBEq, Int.reduceBNe, Nat.reduceBNe, Nat.reduceDiv, Nat.reduceMod, Go.undef]
                refine kont_call hb fn32 rfl ?_ (sshares_ok c) (Ret.flat rfl) rfl fun d h hR => ?_
                · simp only [go_sem, Nat.reduceAdd, Nat.reduceSub, Nat.reduceMul, Nat.reduceBEq, Nat.reduceLT, Nat.reduceLeDiff, Nat.reduceEqDiff, Int.reduceToNat, Int.reduceLE, Int.reduceLT, Int.reduceAdd, Int.reduceSub, Int.reduceNeg, Int.reduceBEq, Int.reduceBNe, Nat.reduceBNe, Nat.reduceDiv, Nat.reduceMod, hl]
                obtain ⟨rfl, rfl⟩ := hR
                refine kont_of_hx cx_ok hb 200 ?_
                simp only [go_sem, Nat.reduceAdd, Nat.reduceSub, Nat.reduceMul, Nat.reduceBEq, Nat.reduceLT, Nat.reduceLeDiff, Nat.reduceEqDiff, Int.reduceToNat, Int.reduceLE, Int.reduceLT, Int.reduceAdd, Int.reduceSub, Int.reduceNeg, Int.reduceBEq, Int.reduceBNe, Nat.reduceBNe, Nat.reduceDiv, Nat.reduceMod, hl]
                cases hs : decide (1 < ofI c.ls) <;> rw [hs] at hv <;> simp at hv <;> simp only [go_sem, Nat.reduceAdd, Nat.reduceSub, Nat.reduceMul, Nat.reduceBEq, Nat.reduceLT, Nat.reduceLeDiff, Nat.reduceEqDiff, Int.reduceToNat, Int.reduceLE, Int.reduceLT, Int.reduceAdd, Int.reduceSub, Int.reduceNeg, Int.reduceBEq, Int.reduceBNe, Nat.reduceBNe, Nat.reduceDiv, Nat.reduceMod, Go.undef, hv]
end Go.Fg.X
namespace Go.Fg.X
open Go.Proofs Go.Fg
set_option maxRecDepth 100000
set_option maxHeartbeats 4000000
set_option linter.unusedSimpArgs false
set_option linter.unusedVariables false
theorem ofI_range (c : Cv) : 0 ≤ ofI c ∧ ofI c ≤ 4 := by unfold ofI; (repeat' split) <;> omega
def wrongV (c : Kls) : Int := if c.iD < 1 ∨ 65536 < c.iD ∨ c.parent < 0 ∨ 65536 < c.parent ∨ c.iD = c.parent then 1
  else if ofI c.rt = 0 ∨ ofI c.ls = 0 ∨ ofI c.ul = 0 ∨ ofI c.ls = 4 ∨ ofI c.ul = 4 then 21
  else if 1 < ofI c.ul ∧ ofI c.ls = 1 then 29
  else if c.leaf = true then (if c.pkts < 1 ∨ 64 < c.pkts ∨ c.bytes < 1 ∨ 1048576 < c.bytes ∨ (ofI c.rt = 1 ∧ ofI c.ls = 1) then 29 else 0)
  else if c.pkts ≠ 0 ∨ c.bytes ≠ 0 ∨ ofI c.rt ≠ 1 then 29 else 0
def Cv.Nn (c : Cv) : Prop := 0 ≤ c.m1 ∧ 0 ≤ c.d ∧ 0 ≤ c.m2
def Kls.Nn (c : Kls) : Prop := c.rt.Nn ∧ c.ls.Nn ∧ c.ul.Nn
theorem wrong_ok (c : Kls) (hc : c.Nn) : AFn Tryz.prog 71 [dkl c] (Ret (dint (wrongV c))) := by
  refine AFn_hxk 0 cx_ok 200 Tryz.func71 rfl Tryz.ntmps71 Tryz.results71 rfl fun base w hb => ?_
  simp only [go_sem, Nat.reduceAdd, Nat.reduceSub, Nat.reduceMul, Nat.reduceBEq, Nat.reduceLT, Nat.reduceLeDiff, Nat.reduceEqDiff, Int.reduceToNat, Int.reduceLE, Int.reduceLT, Int.reduceAdd, Int.reduceSub, Int.reduceNeg, Int.reduceBEq, Int.reduceBNe, Nat.reduceBNe, Nat.reduceDiv, Nat.reduceMod]
  repeat' (first | ((first | refine hite_dec (fun h => ?_) (fun h => ?_) | refine hite_beq (fun h => ?_) (fun h => ?_) | refine hite_bne (fun h => ?_) (fun h => ?_) | refine hite_intro (fun h => ?_) (fun h => ?_) | refine hite_decA (fun h => ?_) (fun h => ?_) | refine hite_beqA (fun h => ?_) (fun h => ?_) | refine hite_bneA (fun h => ?_) (fun h => ?_) | refine hite_intro' (fun h => ?_) (fun h => ?_)) <;> (try simp only [go_sem, Nat.reduceAdd, Nat.reduceSub, Nat.reduceMul, Nat.reduceBEq, Nat.reduceLT, Nat.reduceLeDiff, Nat.reduceEqDiff, Int.reduceToNat, Int.reduceLE, Int.reduceLT, Int.reduceAdd, Int.reduceSub, Int.reduceNeg, Int.reduceBEq, Int.reduceBNe, Nat.reduceBNe, Nat.reduceDiv, Nat.reduceMod])) | (refine And.intro (by omega) ?_; try simp only [go_sem, Nat.reduceAdd, Nat.reduceSub, Nat.reduceMul, Nat.reduceBEq, Nat.reduceLT, Nat.reduceLeDiff, Nat.reduceEqDiff, Int.reduceToNat, Int.reduceLE, Int.reduceLT, Int.reduceAdd, Int.reduceSub, Int.reduceNeg, Int.reduceBEq, Int.reduceBNe, Nat.reduceBNe, Nat.reduceDiv, Nat.reduceMod]))
  all_goals first | (congr 2; unfold wrongV; (repeat' split) <;> first | omega | simp_all; done) | skip
  refine kont_call hb fn41 rfl ?_ (rofcI_ok c.rt hc.1.1 hc.1.2.1 hc.1.2.2) (Ret.flat rfl) rfl fun d h hR => ?_
  · simp only [go_sem, Nat.reduceAdd, Nat.reduceSub, Nat.reduceMul, Nat.reduceBEq, Nat.reduceLT, Nat.reduceLeDiff, Nat.reduceEqDiff, Int.reduceToNat, Int.reduceLE, Int.reduceLT, Int.reduceAdd, Int.reduceSub, Int.reduceNeg, Int.reduceBEq, Int.reduceBNe, Nat.reduceBNe, Nat.reduceDiv, Nat.reduceMod]
  obtain ⟨rfl, rfl⟩ := hR
  refine kont_of_hx cx_ok hb 200 ?_
  simp only [go_sem, Nat.reduceAdd, Nat.reduceSub, Nat.reduceMul, Nat.reduceBEq, Nat.reduceLT, Nat.reduceLeDiff, Nat.reduceEqDiff, Int.reduceToNat, Int.reduceLE, Int.reduceLT, Int.reduceAdd, Int.reduceSub, Int.reduceNeg, Int.reduceBEq, Int.reduceBNe, Nat.reduceBNe, Nat.reduceDiv, Nat.reduceMod]
  refine kont_call hb fn41 rfl ?_ (rofcI_ok c.ls hc.2.1.1 hc.2.1.2.1 hc.2.1.2.2) (Ret.flat rfl) rfl fun d h hR => ?_
  · simp only [go_sem, Nat.reduceAdd, Nat.reduceSub, Nat.reduceMul, Nat.reduceBEq, Nat.reduceLT, Nat.reduceLeDiff, Nat.reduceEqDiff, Int.reduceToNat, Int.reduceLE, Int.reduceLT, Int.reduceAdd, Int.reduceSub, Int.reduceNeg, Int.reduceBEq, Int.reduceBNe, Nat.reduceBNe, Nat.reduceDiv, Nat.reduceMod]
  obtain ⟨rfl, rfl⟩ := hR
  refine kont_of_hx cx_ok hb 200 ?_
  simp only [go_sem, Nat.reduceAdd, Nat.reduceSub, Nat.reduceMul, Nat.reduceBEq, Nat.reduceLT, Nat.reduceLeDiff, Nat.reduceEqDiff, Int.reduceToNat, Int.reduceLE, Int.reduceLT, Int.reduceAdd, Int.reduceSub, Int.reduceNeg, Int.reduceBEq, Int.reduceBNe, Nat.reduceBNe, Nat.reduceDiv, Nat.reduceMod]
  refine kont_call hb fn41 rfl ?_ (rofcI_ok c.ul hc.2.2.1 hc.2.2.2.1 hc.2.2.2.2) (Ret.flat rfl) rfl fun d h hR => ?_
  · simp only [go_sem, Nat.reduceAdd, Nat.reduceSub, Nat.reduceMul, Nat.reduceBEq, Nat.reduceLT, Nat.reduceLeDiff, Nat.reduceEqDiff, Int.reduceToNat, Int.reduceLE, Int.reduceLT, Int.reduceAdd, Int.reduceSub, Int.reduceNeg, Int.reduceBEq, Int.reduceBNe, Nat.reduceBNe, Nat.reduceDiv, Nat.reduceMod]
  obtain ⟨rfl, rfl⟩ := hR
  refine kont_of_hx cx_ok hb 200 ?_
  simp only [go_sem, Nat.reduceAdd, Nat.reduceSub, Nat.reduceMul, Nat.reduceBEq, Nat.reduceLT, Nat.reduceLeDiff, Nat.reduceEqDiff, Int.reduceToNat, Int.reduceLE, Int.reduceLT, Int.reduceAdd, Int.reduceSub, Int.reduceNeg, Int.reduceBEq, Int.reduceBNe, Nat.reduceBNe, Nat.reduceDiv, Nat.reduceMod]
  repeat' (first | ((first | refine hite_dec (fun h => ?_) (fun h => ?_) | refine hite_beq (fun h => ?_) (fun h => ?_) | refine hite_bne (fun h => ?_) (fun h => ?_) | refine hite_intro (fun h => ?_) (fun h => ?_) | refine hite_decA (fun h => ?_) (fun h => ?_) | refine hite_beqA (fun h => ?_) (fun h => ?_) | refine hite_bneA (fun h => ?_) (fun h => ?_) | refine hite_intro' (fun h => ?_) (fun h => ?_)) <;> (try simp only [go_sem, Nat.reduceAdd, Nat.reduceSub, Nat.reduceMul, Nat.reduceBEq, Nat.reduceLT, Nat.reduceLeDiff, Nat.reduceEqDiff, Int.reduceToNat, Int.reduceLE, Int.reduceLT, Int.reduceAdd, Int.reduceSub, Int.reduceNeg, Int.reduceBEq, Int.reduceBNe, Nat.reduceBNe, Nat.reduceDiv, Nat.reduceMod])) | (refine And.intro (by omega) ?_; try simp only [go_sem, Nat.reduceAdd, Nat.reduceSub, Nat.reduceMul, Nat.reduceBEq, Nat.reduceLT, Nat.reduceLeDiff, Nat.reduceEqDiff, Int.reduceToNat, Int.reduceLE, Int.reduceLT, Int.reduceAdd, Int.reduceSub, Int.reduceNeg, Int.reduceBEq, Int.reduceBNe, Nat.reduceBNe, Nat.reduceDiv, Nat.reduceMod]))
  all_goals first | (congr 2; unfold wrongV; (repeat' split) <;> first | omega | simp_all; done) | skip
theorem wrong_right (c : Kls) : wrongV c = rightV c := by
  have h1 := ofI_range c.rt
  have h2 := ofI_range c.ls
  have h3 := ofI_range c.ul
  unfold wrongV rightV idOk cvOk leafOk innerOk frI
  generalize ofI c.rt = a at *
  generalize ofI c.ls = b at *
  generalize ofI c.ul = d at *
  cases hl : c.leaf <;> simp only [Bool.and_eq_true, Bool.or_eq_true, Bool.not_eq_true', Bool.and_eq_false_iff, Bool.or_eq_false_iff, decide_eq_true_eq, decide_eq_false_iff_not, beq_iff_eq, beq_eq_false_iff_ne, bne_iff_ne, bne_eq_false_iff_eq, Bool.not_eq_false', ne_eq, reduceCtorEq, false_and, true_and, false_or, or_false, if_false, if_true] <;> (repeat' split) <;> omega
end Go.Fg.X
namespace Go.Fg
set_option linter.unusedSimpArgs false
set_option linter.unusedVariables false
open Go.RowKit (Below)
/-- The numbers of birth rise. -/
def Births (es : List Ent) : Prop := (es.map (·.b)).Pairwise (· < ·)
theorem EntRel.births {Z : Nat → Prop} {h : List Ob} {pl : List Pl} {w : World} {q : IntKind} {c : Nat} {es : List Ent} {ens : List MapEntry} (E : EntRel Z h pl w q c es ens) : Births es := by
  unfold Births
  rw [List.pairwise_iff_getElem]
  intro i j hi hj hij
  simp only [List.length_map] at hi hj
  have hl := E.len
  obtain ⟨_, _, h1, _⟩ := E.at_ i es[i] ens[i] (List.getElem?_eq_getElem hi) (List.getElem?_eq_getElem (by omega))
  obtain ⟨_, _, h2, _⟩ := E.at_ j es[j] ens[j] (List.getElem?_eq_getElem hj) (List.getElem?_eq_getElem (by omega))
  have := E.inc i j ens[i] ens[j] hij (List.getElem?_eq_getElem (by omega)) (List.getElem?_eq_getElem (by omega))
  simp only [List.getElem_map]
  omega
theorem Births.inj {es : List Ent} (B : Births es) {e e' : Ent} (h : e ∈ es) (h' : e' ∈ es) (hb : e.b = e'.b) : e = e' := by
  unfold Births at B
  rw [List.pairwise_iff_getElem] at B
  obtain ⟨i, hi, rfl⟩ := List.getElem_of_mem h
  obtain ⟨j, hj, rfl⟩ := List.getElem_of_mem h'
  rcases Nat.lt_trichotomy i j with h1 | h1 | h1
  · have := B i j (by simpa using hi) (by simpa using hj) h1; simp only [List.getElem_map] at this; omega
  · subst h1; rfl
  · have := B j i (by simpa using hj) (by simpa using hi) h1; simp only [List.getElem_map] at this; omega
theorem Births.nodup {es : List Ent} (B : Births es) : (es.map (·.b)).Nodup := by
  unfold List.Nodup
  exact List.Pairwise.imp (fun h => Nat.ne_of_lt h) B
/-- How many are left. -/
def leftE (es : List Ent) (seen : List Nat) : Nat := (es.filter fun e => !seen.contains e.b).length
theorem leftE_lt : ∀ {es : List Ent} {seen : List Nat} {e : Ent}, e ∈ es → e.b ∉ seen → leftE es (seen ++ [e.b]) < leftE es seen
  | [], _, _, h, _ => by simp at h
  | x :: es, seen, e, h, hs => by
    have le : ∀ es : List Ent, leftE es (seen ++ [e.b]) ≤ leftE es seen := fun es => by
      induction es with
      | nil => exact Nat.le_refl _
      | cons y r ih =>
        simp only [leftE, List.filter_cons] at ih ⊢
        by_cases h1 : y.b ∈ seen <;> by_cases h2 : y.b = e.b <;> simp_all <;> omega
    rcases List.mem_cons.1 h with rfl | h
    · have := le es
      simp only [leftE, List.filter_cons] at this ⊢
      simp_all
      omega
    · have := leftE_lt h hs
      simp only [leftE, List.filter_cons] at this ⊢
      by_cases h1 : x.b ∈ seen <;> by_cases h2 : x.b = e.b <;> simp_all <;> omega
section
variable {P : Program} {L : Lay} {base nt : Nat} {w0 : Start} {Q : Exit → St → Prop}
theorem map_births {Z : Nat → Prop} {s : St} {pl : List Pl} {a : Act} {w : World} (r : Rel Z base nt s pl a w) {l c : Nat} {es : List Ent} {kd : Kd} {q : IntKind} (hkd : kd.ty = 1) (hob : s.h[l]? = some (mapObK kd q c es)) : Births es := by
  have hl : l < pl.length := by rw [r.o.len]; exact lt_of_some hob
  cases hp : pl[l] with
  | none =>
    have := r.o.noRow l _ hob (by rw [List.getElem?_eq_getElem hl, hp])
    simp [mapObK] at this
  | some bq =>
    obtain ⟨b, p⟩ := bq
    obtain ⟨_, x⟩ := r.o.at_ l _ b p hob (by rw [List.getElem?_eq_getElem hl, hp])
    obtain ⟨_, ens, _, E⟩ := mapAt_to hkd x
    exact E.births
/-- The births of a map that is there rise. -/
theorem kont_births {c0 : Code} {k : List Item} {s : St} {l c : Nat} {es : List Ent} {kd : Kd} {q : IntKind} (hkd : kd.ty = 1) (hob : s.h[l]? = some (mapObK kd q c es)) (hk : Births es → kont P base nt w0 Q (.code c0 :: k) .normal s) : kont P base nt w0 Q (.code c0 :: k) .normal s := by
  simp only [kont] at hk ⊢
  intro Z z pl a w r b
  exact hk (map_births r hkd hob) Z z pl a w r b
theorem kont_birthsO {os : List (Oper × G)} {k : List Item} {s : St} {l c : Nat} {es : List Ent} {kd : Kd} {q : IntKind} (hkd : kd.ty = 1) (hob : s.h[l]? = some (mapObK kd q c es)) (hk : Births es → kont P base nt w0 Q (.ops os :: k) .normal s) : kont P base nt w0 Q (.ops os :: k) .normal s := by
  simp only [kont] at hk ⊢
  intro Z z pl a w r b
  exact hk (map_births r hkd hob) Z z pl a w r b
/-- The entry that an iterator met last. -/
theorem entry_ok {o : Oper} {s : St} {x : Operand} (ho : o.op = .entry x) {li l c : Nat} {es : List Ent} {seen : List Nat} {q : IntKind} {kd : Kd} {e : Ent}
    (hx : evalO s.fr x = .mref li 0) (hit : s.h[li]? = some (iterOb l c c (seen ++ [e.b]))) (hkd : kd.ty = 1) (hob : s.h[l]? = some (mapObK kd q c es)) (he : e ∈ es) : PureOk P base nt o s (.tup [.raw (.int q e.k), e.v]) := by
  intro Z pl a w r
  have e1 := r.eval x
  rw [hx] at e1
  obtain ⟨o', p, b, h1, h2, h3, h4, h5⟩ := inv_mref e1
  rw [hit] at h1; cases h1
  have h5 := h5 rfl
  rw [h5] at h2
  obtain ⟨hb0, xat⟩ := r.o.at_ li _ b 0 hit h2
  obtain ⟨_, m, sn, hb, hsn, hmr⟩ := iterAt_to xat
  have hv : a.eval x = .pointer (some ⟨b, 0, none⟩) := h3.2
  obtain ⟨o2, p2, bm, k1, k2, k3, k4, k5⟩ := inv_mref hmr
  rw [hob] at k1; cases k1
  have k5 := k5 rfl
  rw [k5] at k2
  have k3 := k3.2
  rw [show (mapObK kd q c es).kd.ty = 1 from hkd] at k3
  have k3 : m = bm := by simpa [mval] using k3
  subst k3
  obtain ⟨hm0, mat⟩ := r.o.at_ l _ m 0 hob k2
  obtain ⟨_, ens, hbm, E⟩ := mapAt_to hkd mat
  have hl : es.length = ens.toList.length := E.len
  obtain ⟨j, hj⟩ := List.getElem?_of_mem he
  have hlt := (List.getElem?_eq_some_iff.1 hj).1
  obtain ⟨d1, d2, d3, d4⟩ := E.at_ j e (ens.toList[j]'(by omega)) hj (List.getElem?_eq_getElem (by omega))
  have hnd : (ens.toList.map (·.born)).Nodup := by
    have : ens.toList.map (·.born) = es.map (·.b) := by
      apply List.ext_getElem (by simp [hl])
      intro i h1 h2
      simp only [List.length_map] at h1 h2
      obtain ⟨_, _, g, _⟩ := E.at_ i (es[i]'(by omega)) (ens.toList[i]'(by omega)) (List.getElem?_eq_getElem (by omega)) (List.getElem?_eq_getElem (by omega))
      simp only [List.getElem_map, g]
    rw [this]; exact E.births.nodup
  have hsn' : sn = (seen.toArray).push (ens.toList[j]'(by omega)).born := by
    apply Array.toList_inj.1
    rw [hsn, d3]; simp
  have hb' := hb
  rw [hsn'] at hb'
  refine ⟨.tuple #[(ens.toList[j]'(by omega)).key, (ens.toList[j]'(by omega)).val], ?_, fun w' ew => ?_⟩
  · rw [d1]
    exact .tup _ [.int q e.k, (ens.toList[j]'(by omega)).val] rfl fun i hi => match i, hi with
      | 0, _ => .cl _ _ (.raw _)
      | 1, _ => d2
  · have hrun := run_entry_at (P := P) w' b m c seen.toArray ens c (ens.toList[j]'(by omega)) (by rw [ew b (lt_of_heap hb')]; exact hb') (by rw [ew m (lt_of_heap hbm)]; exact hbm) (List.getElem_mem _) hnd
    simp [execOp, ho, hv, hrun]
theorem kont_entry {k : List Item} {dst : Option Nat} {ty : TypeId} {pos : String} {after : Array Edge} {gd : Option (Nat × Bool)} {r : List (Oper × G)} {s : St} {x : Operand} {li l c : Nat} {es : List Ent} {seen : List Nat} {q : IntKind} {kd : Kd} {e : Ent}
    (hx : evalO s.fr x = .mref li 0) (hit : s.h[li]? = some (iterOb l c c (seen ++ [e.b]))) (hkd : kd.ty = 1) (hob : s.h[l]? = some (mapObK kd q c es)) (he : e ∈ es) (ht : okO nt dst = true)
    (h1 : kont P base nt w0 Q (.ops r :: k) .normal ⟨putO s.fr dst (.tup [.raw (.int q e.k), e.v]), s.h⟩) :
    kont P base nt w0 Q (.ops ((⟨dst, .entry x, ty, pos, after, gd⟩, none) :: r) :: k) .normal s := by
  simp only [kont] at h1 ⊢
  exact AG_pure (entry_ok rfl hx hit hkd hob he) ht h1
end
end Go.Fg
namespace Go.Fg
set_option linter.unusedSimpArgs false
set_option linter.unusedVariables false
open Go.RowKit (Below)
open Go.Proofs Go.Shelf Go.Sort
def sorted (zs : List Int) : List Int := zs.mergeSort fun x y => decide (x ≤ y)
theorem sorted_len (zs : List Int) : (sorted zs).length = zs.length := by simp [sorted]
def sortRow (off : Nat) (row : Nat → List D) (ts : List Int) : Nat → List D := fun i => if off ≤ i ∧ i < off + ts.length then [.raw (.int .i64 (ts.getD (i - off) 0))] else row i
variable {P : Program} {ρ : Ren}
theorem grow_size (w : World) (os : Array Obj) : (grow w os).heap.size = w.heap.size + os.size := by simp [grow]
theorem heap_sortedAt {w : World} {b n o : Nat} {os : Array Obj} {cur : Array Value} {e : TypeId} {fr : Nat × Nat} (d : Array Int) (hb : w.heap[b]? = some (.cells cur e fr)) :
    (grow (putRow (Value.int .i64) (Sort.ahead w n) b o d) os).heap[b]? = some (.cells (putCells (Value.int .i64) o d cur) e fr) := by
  have hg : b < w.heap.size := (Array.getElem?_eq_some_iff.1 hb).1
  rw [heap_grow_old _ _ (by simpa using hg)]
  simp [putRow, mapBlock, Sort.ahead, Array.getElem?_modify, hb, onCells]
theorem grownBy_sortedAt {w : World} {b n o : Nat} {os : Array Obj} (d : Array Int) : w.grownBy (grow (putRow (Value.int .i64) (Sort.ahead w n) b o d) os) (some b) := by
  refine ⟨rfl, rfl, rfl, by simp, fun k hk hne => ?_⟩
  rw [heap_grow_old _ _ (by simpa using hk)]
  have : b ≠ k := fun e => hne (by rw [e])
  simp [putRow, mapBlock, Sort.ahead, Array.getElem?_modify, this]
theorem sort_ok (Ly : Lays.n189 P ρ) {h : List Ob} {l g off N : Nat} {row : Nat → List D} {zs : List Int} (ho : h[l]? = some ⟨.arr, g, 1, N, row⟩) (hn : off + zs.length ≤ N) (hr : ∀ i, i < zs.length → row (off + i) = [.raw (.int .i64 (zs.getD i 0))]) (hlen : zs.length < 4611686018427387904) :
    MFn P (ρ.f 189) h [.ref l g off zs.length] (fun d h' => d = .tup [] ∧ h' = h.set l ⟨.arr, g, 1, N, sortRow off row (sorted zs)⟩) := by
  intro Z base w pl vs hbase hZ R hvl hv
  match vs, hvl with
  | [v], _ =>
  have r0 := hv 0 (by simp)
  obtain ⟨o, p, a, cap, e1, h1, h2, h3, h4, h5⟩ := inv_ref r0
  rw [ho] at h1; cases h1
  have e1 : v = .slice a zs.length cap := e1
  have hsl := h5 rfl
  subst e1
  have hlt : l < h.length := lt_of_some ho
  by_cases h0 : zs.length = 0
  · have hz : zs = [] := List.length_eq_zero_iff.1 h0
    subst hz
    refine (Any.slices_Sort_int_none Ly a cap w).mono ?_
    rintro e w' ⟨rfl, rfl⟩
    have hs : h.set l ⟨.arr, g, 1, N, sortRow off row (sorted [])⟩ = h := by
      have : sortRow off row (sorted []) = row := by
        funext i
        have : ¬ (off ≤ i ∧ i < off + (sorted []).length) := by rw [sorted_len]; simp
        unfold sortRow; rw [if_neg this]
      rw [this]
      apply List.ext_getElem?
      intro i
      by_cases hi : l = i
      · subst hi; rw [List.getElem?_set_self hlt, ho]
      · rw [List.getElem?_set_ne hi]
    rw [hs]
    exact ⟨_, .tup [], h, pl, rfl, ⟨rfl, rfl⟩, R, .tup [] [] rfl (fun i hi => by simp at hi), Tr.refl _ _ _, .refl _ _⟩
  · rcases hsl with ⟨h6, _⟩ | ⟨b, q, c, el, rfl, rfl, hb, hcap, hcl⟩
    · exact absurd h6 h0
    · obtain ⟨hbb, xat⟩ := R.at_ l _ b q ho h2
      obtain ⟨c', el', hb', hcs, hrl, hrow⟩ := xat.cells rfl
      rw [hb] at hb'; cases hb'
      simp only [Nat.mul_one] at hcap hcs hrow ⊢
      have hcell : ∀ i, i < zs.length → c[q + off + i]? = some (.int .i64 (zs.getD i 0)) := fun i hi => by
        obtain ⟨u, hu, hur⟩ := hrow (off + i) 0 (by show off + i < N; omega) (by show 0 < 1; omega)
        have e2 : (row (off + i)) = _ := hr i hi
        have hur : RelV Z h pl w (nth (row (off + i)) 0) u := hur
        rw [e2] at hur
        have := inv_raw hur
        rw [show q + off + i = q + (off + i + 0) by omega, hu, this]
      have hH : Holds (Value.int .i64) w b (q + off) zs.toArray := by
        intro j hj
        have hj' : j < zs.length := by simpa using hj
        refine ⟨?_, by simp [World.frozen?, hb]⟩
        rw [World.cell?_of_block (w := w) (w' := w) rfl]
        simp only [World.cell?, hb]
        simp only [Option.isSome_none, Bool.false_eq_true, if_false]
        rw [hcell j hj']
        simp [List.getD_eq_getElem?_getD, hj']
      refine (Any.slices_Sort_int Ly b (q + off) cap zs w hH (lt_of_heap hb) hlen).mono ?_
      rintro e w' ⟨rfl, n, os, hw⟩
      have hG : w.grownBy w' (some b) := by rw [hw]; exact grownBy_sortedAt _
      have hnew : w'.heap[b]? = some (.cells (putCells (Value.int .i64) (q + off) (sorted zs).toArray c) el (0, 0)) := by rw [hw]; exact heap_sortedAt _ hb
      have hsz : (putCells (Value.int .i64) (q + off) (sorted zs).toArray c).size = c.size := by simp [putCells]
      have hold : ∀ k, k ≠ b → k < w.heap.size → w'.heap[k]? = w.heap[k]? := fun k hk hlt => hG.block k hlt (fun e => hk (by cases e; rfl))
      have hbase' : base ≤ b := hbb rfl
      have hB : Below base w w' := (Below.refl base w).grown hG hbase (fun k hk => by cases hk; exact hbase')
      have T := Tr.upd (w' := w') (o' := ⟨.arr, g, 1, N, sortRow off row (sorted zs)⟩) R ho h2 rfl rfl rfl hold (fun c1 el1 e1 => by rw [hb] at e1; cases e1; exact ⟨_, hnew, hsz⟩)
      have hput : ∀ i, i < c.size → (putCells (Value.int .i64) (q + off) (sorted zs).toArray c)[i]? = if q + off ≤ i ∧ i < q + off + zs.length then some (.int .i64 ((sorted zs).getD (i - (q + off)) 0)) else c[i]? := fun i hi => by
        have hl : (sorted zs).toArray.size = zs.length := by simp [sorted_len]
        simp only [putCells, Array.getElem?_mapIdx, hl, Array.getElem?_eq_getElem hi, Option.map_some]
        split
        · rename_i hin
          have : i - (q + off) < (sorted zs).length := by rw [sorted_len]; omega
          simp [List.getD_eq_getElem?_getD, this]
        · rfl
      refine ⟨_, .tup [], _, pl, rfl, ⟨rfl, rfl⟩, RelO.upd (w' := w') (o' := ⟨.arr, g, 1, N, sortRow off row (sorted zs)⟩) R ho h2 rfl rfl rfl rfl hold hb hnew hsz (by rw [hsz]; simpa using hcs) (fun i hi => ?_) (fun i j hi hj => ?_) rfl, .tup [] [] rfl (fun i hi => by simp at hi), T, hB⟩
      · show (sortRow off row (sorted zs) i).length = 1
        unfold sortRow
        split
        · rfl
        · exact hrl i hi
      · have hi : i < N := hi
        have hj : j < 1 := hj
        have hj0 : j = 0 := by omega
        subst hj0
        have hic : q + (i + 0) < c.size := by omega
        show ∃ v, (putCells (Value.int .i64) (q + off) (sorted zs).toArray c)[q + (i * 1 + 0)]? = some v ∧ RelV Z _ pl w' (nth (sortRow off row (sorted zs) i) 0) v
        rw [Nat.mul_one, hput _ hic]
        have hsr : sortRow off row (sorted zs) i = if off ≤ i ∧ i < off + zs.length then [.raw (.int .i64 ((sorted zs).getD (i - off) 0))] else row i := by unfold sortRow; rw [sorted_len]
        rw [hsr]
        by_cases hin : off ≤ i ∧ i < off + zs.length
        · rw [if_pos (by omega), if_pos hin]
          exact ⟨_, rfl, by rw [show q + (i + 0) - (q + off) = i - off by omega]; exact .cl _ _ (.raw _)⟩
        · rw [if_neg (by omega), if_neg hin]
          obtain ⟨u, hu, hur⟩ := hrow i 0 hi hj
          exact ⟨u, hu, hur.tr T⟩
end Go.Fg
namespace Go.Fg.X
open Go.Proofs Go.Fg
set_option maxRecDepth 100000
set_option maxHeartbeats 4000000
set_option linter.unusedSimpArgs false
set_option linter.unusedVariables false
/-! A tree of classes: a list by rising numbers, and a map. -/
def findC (L : List Kls) (k : Int) : Option Kls := L.find? fun c => c.iD == k
def ofE (e : Ent) : Int × D := (e.k, e.v)
def ofC (c : Kls) : Int × D := (c.iD, dkl c)
def Rising (L : List Kls) : Prop := L.Pairwise fun a b => a.iD < b.iD
structure TreeIs (es : List Ent) (L : List Kls) : Prop where
  perm : (es.map ofE).Perm (L.map ofC)
  sorted : Rising L
theorem nd_map {α : Type} {f : α → Int} : ∀ {l : List α}, (l.map f).Nodup → ∀ {x y : α}, x ∈ l → y ∈ l → f x = f y → x = y
  | [], _, x, _, hx, _, _ => by simp at hx
  | a :: l, hn, x, y, hx, hy, e => by
    simp only [List.map_cons, List.nodup_cons, List.mem_map, not_exists, not_and] at hn
    rcases List.mem_cons.1 hx with h1 | h1 <;> rcases List.mem_cons.1 hy with h2 | h2
    · rw [h1, h2]
    · exact absurd (by rw [← e, h1]) (hn.1 y h2)
    · exact absurd (by rw [e, h2]) (hn.1 x h1)
    · exact nd_map hn.2 h1 h2 e
theorem Rising.nd {L : List Kls} (h : Rising L) : (L.map (·.iD)).Nodup := by
  unfold List.Nodup
  rw [List.pairwise_map]
  exact List.Pairwise.imp (fun h => by omega) h
theorem TreeIs.keysNd {es : List Ent} {L : List Kls} (T : TreeIs es L) : KeysNd es := by
  have h1 : es.map (·.k) = (es.map ofE).map Prod.fst := by simp [ofE, Function.comp_def]
  have h2 : (L.map ofC).map Prod.fst = L.map (·.iD) := by simp [ofC, Function.comp_def]
  unfold KeysNd
  rw [h1, (T.perm.map Prod.fst).nodup_iff, h2]
  exact T.sorted.nd
theorem alook_iff : ∀ {es : List Ent}, KeysNd es → ∀ {k : Int} {v : D}, alook es k = some v ↔ (k, v) ∈ es.map ofE
  | [], _, k, v => by simp [alook]
  | e :: es, hn, k, v => by
    have hn2 : KeysNd es := by unfold KeysNd at hn ⊢; simp only [List.map_cons, List.nodup_cons] at hn; exact hn.2
    simp only [alook]
    by_cases h : e.k = k
    · rw [if_pos h]
      constructor
      · rintro ⟨rfl⟩; simp [ofE, h]
      · intro hm
        simp only [List.map_cons, List.mem_cons] at hm
        rcases hm with hm | hm
        · simp only [ofE, Prod.mk.injEq] at hm; rw [hm.2]
        · exfalso
          obtain ⟨e', he', hh⟩ := List.mem_map.1 hm
          simp only [ofE, Prod.mk.injEq] at hh
          unfold KeysNd at hn
          simp only [List.map_cons, List.nodup_cons, List.mem_map, not_exists, not_and] at hn
          exact hn.1 e' he' (by rw [hh.1, h])
    · rw [if_neg h, alook_iff hn2]
      simp only [List.map_cons, List.mem_cons]
      constructor
      · exact fun h => .inr h
      · rintro (hm | hm)
        · simp only [ofE, Prod.mk.injEq] at hm; exact absurd hm.1.symm h
        · exact hm
theorem findC_iff {L : List Kls} (h : Rising L) {k : Int} {c : Kls} : findC L k = some c ↔ c ∈ L ∧ c.iD = k := by
  constructor
  · intro e
    exact ⟨List.mem_of_find?_eq_some e, by have := List.find?_some e; simpa using this⟩
  · rintro ⟨hm, rfl⟩
    cases hf : findC L c.iD with
    | none =>
      have := List.find?_eq_none.1 hf c hm
      simp at this
    | some d =>
      have h1 := List.mem_of_find?_eq_some hf
      have h2 : d.iD = c.iD := by have := List.find?_some hf; simpa using this
      rw [nd_map h.nd h1 hm h2]
theorem findC_none {L : List Kls} {k : Int} : findC L k = none ↔ ∀ c ∈ L, c.iD ≠ k := by
  simp [findC, List.find?_eq_none]
theorem TreeIs.look {es : List Ent} {L : List Kls} (T : TreeIs es L) (k : Int) : alook es k = (findC L k).map dkl := by
  cases hf : findC L k with
  | some c =>
    obtain ⟨h1, h2⟩ := (findC_iff T.sorted).1 hf
    rw [Option.map_some, alook_iff T.keysNd, T.perm.mem_iff]
    exact List.mem_map.2 ⟨c, h1, by simp [ofC, h2]⟩
  | none =>
    rw [Option.map_none]
    cases ha : alook es k with
    | none => rfl
    | some v =>
      rw [alook_iff T.keysNd, T.perm.mem_iff] at ha
      obtain ⟨c, hc, e⟩ := List.mem_map.1 ha
      simp only [ofC, Prod.mk.injEq] at e
      exact absurd e.1 (findC_none.1 hf c hc)
theorem TreeIs.len {es : List Ent} {L : List Kls} (T : TreeIs es L) : es.length = L.length := by
  have := T.perm.length_eq
  simpa using this
theorem TreeIs.nil : TreeIs [] [] := ⟨by simp, by simp [Rising]⟩
/-- A list with a class, in the place of the one that was there. -/
def putC : List Kls → Kls → List Kls
  | [], x => [x]
  | c :: r, x => if x.iD < c.iD then x :: c :: r else if c.iD = x.iD then x :: r else c :: putC r x
def delC (L : List Kls) (k : Int) : List Kls := L.filter fun c => c.iD != k
theorem filter_id {α : Type} {p : α → Bool} {l : List α} (h : ∀ x ∈ l, p x = true) : l.filter p = l := List.filter_eq_self.2 h
theorem putC_perm : ∀ {L : List Kls} (x : Kls), Rising L → (putC L x).Perm (x :: delC L x.iD)
  | [], x, _ => by simp [putC, delC]
  | c :: r, x, h => by
    have hr : Rising r := List.Pairwise.of_cons h
    have hc : ∀ d ∈ r, c.iD < d.iD := fun d hd => (List.pairwise_cons.1 h).1 d hd
    simp only [putC]
    by_cases h1 : x.iD < c.iD
    · rw [if_pos h1]
      have : delC (c :: r) x.iD = c :: r := filter_id fun d hd => by
        rcases List.mem_cons.1 hd with rfl | hd
        · simp; omega
        · have := hc d hd; simp; omega
      rw [this]
    · rw [if_neg h1]
      by_cases h2 : c.iD = x.iD
      · rw [if_pos h2]
        have e1 : delC r x.iD = r := filter_id fun d hd => by have := hc d hd; simp; omega
        have : delC (c :: r) x.iD = r := by unfold delC at e1 ⊢; rw [List.filter_cons_of_neg (by simp [h2]), e1]
        rw [this]
      · rw [if_neg h2]
        have : delC (c :: r) x.iD = c :: delC r x.iD := by unfold delC; rw [List.filter_cons_of_pos (by simp [h2])]
        rw [this]
        exact ((putC_perm x hr).cons c).trans (List.Perm.swap x c _)
theorem putC_rising : ∀ {L : List Kls} (x : Kls), Rising L → Rising (putC L x)
  | [], x, _ => by simp [putC, Rising]
  | c :: r, x, h => by
    have hr : Rising r := List.Pairwise.of_cons h
    have hc : ∀ d ∈ r, c.iD < d.iD := fun d hd => (List.pairwise_cons.1 h).1 d hd
    simp only [putC]
    by_cases h1 : x.iD < c.iD
    · rw [if_pos h1]
      exact List.pairwise_cons.2 ⟨fun d hd => by
        rcases List.mem_cons.1 hd with rfl | hd
        · exact h1
        · have := hc d hd; omega, h⟩
    · rw [if_neg h1]
      by_cases h2 : c.iD = x.iD
      · rw [if_pos h2]
        exact List.pairwise_cons.2 ⟨fun d hd => by have := hc d hd; omega, hr⟩
      · rw [if_neg h2]
        refine List.pairwise_cons.2 ⟨fun d hd => ?_, putC_rising x hr⟩
        have := (putC_perm x hr).mem_iff.1 hd
        rcases List.mem_cons.1 this with rfl | hd2
        · omega
        · exact hc d (List.mem_filter.1 hd2).1
theorem delC_rising {L : List Kls} (k : Int) (h : Rising L) : Rising (delC L k) := List.Pairwise.filter _ h
theorem aput_perm : ∀ {es : List Ent} (k : Int) (v : D), KeysNd es → (∃ u, alook es k = some u) → ((aput es k v).map ofE).Perm ((k, v) :: (es.map ofE).filter fun p => p.1 != k)
  | [], k, v, _, h => by simp [alook] at h
  | e :: es, k, v, hn, h => by
    have hn1 := hn
    unfold KeysNd at hn1
    simp only [List.map_cons, List.nodup_cons, List.mem_map, not_exists, not_and] at hn1
    simp only [aput]
    by_cases he : e.k = k
    · rw [if_pos he]
      have e1 : (es.map ofE).filter (fun p => p.1 != k) = es.map ofE := filter_id fun p hp => by
        obtain ⟨e', he', rfl⟩ := List.mem_map.1 hp
        have := hn1.1 e' he'
        simp [ofE]; omega
      have : ((e :: es).map ofE).filter (fun p => p.1 != k) = es.map ofE := by rw [List.map_cons, List.filter_cons_of_neg (by simp [ofE, he]), e1]
      rw [this]
      simp [ofE]
    · rw [if_neg he]
      have h2 : ∃ u, alook es k = some u := by simpa only [alook, if_neg he] using h
      have : ((e :: es).map ofE).filter (fun p => p.1 != k) = ofE e :: (es.map ofE).filter (fun p => p.1 != k) := by rw [List.map_cons, List.filter_cons_of_pos (by simp [ofE, he])]
      rw [this, List.map_cons]
      exact ((aput_perm k v hn1.2 h2).cons _).trans (List.Perm.swap _ _ _)
theorem mset_tree {es : List Ent} {L : List Kls} (T : TreeIs es L) (q : IntKind) (c : Nat) (x : Kls) : ∃ c' es', mset q c es x.iD (dkl x) = mapOb q c' es' ∧ TreeIs es' (putC L x) := by
  have hp : ((putC L x).map ofC).Perm ((x.iD, dkl x) :: (L.map ofC).filter fun p => p.1 != x.iD) := by
    have := (putC_perm x T.sorted).map ofC
    rw [List.map_cons] at this
    refine this.trans ?_
    have : (L.map ofC).filter (fun p => p.1 != x.iD) = (delC L x.iD).map ofC := by
      rw [List.filter_map]; rfl
    rw [this]
    exact List.Perm.refl _
  have hf := T.perm.filter fun p => p.1 != x.iD
  unfold mset
  cases ha : alook es x.iD with
  | some u => exact ⟨c, _, rfl, ⟨(aput_perm x.iD (dkl x) T.keysNd ⟨u, ha⟩).trans ((hf.cons _).trans hp.symm), putC_rising x T.sorted⟩⟩
  | none =>
    refine ⟨c + 1, _, rfl, ⟨?_, putC_rising x T.sorted⟩⟩
    have e1 : (es.map ofE).filter (fun p => p.1 != x.iD) = es.map ofE := filter_id fun p hp => by
      obtain ⟨e', he', rfl⟩ := List.mem_map.1 hp
      have := (alook_none ha).1 e' he'
      simp [ofE]; omega
    rw [e1] at hf
    rw [List.map_append]
    refine List.perm_append_comm.trans ?_
    exact (hf.cons (x.iD, dkl x)).trans hp.symm
theorem adel_perm : ∀ {es : List Ent} (k : Int), KeysNd es → ((adel es k).map ofE) = ((es.map ofE).filter fun p => p.1 != k)
  | [], k, _ => rfl
  | e :: es, k, hn => by
    have hn1 := hn
    unfold KeysNd at hn1
    simp only [List.map_cons, List.nodup_cons, List.mem_map, not_exists, not_and] at hn1
    simp only [adel]
    by_cases he : e.k = k
    · rw [if_pos he, List.map_cons, List.filter_cons_of_neg (by simp [ofE, he])]
      exact (filter_id fun p hp => by
        obtain ⟨e', he', rfl⟩ := List.mem_map.1 hp
        have := hn1.1 e' he'
        simp [ofE]; omega).symm
    · rw [if_neg he, List.map_cons, List.map_cons, List.filter_cons_of_pos (by simp [ofE, he]), adel_perm k hn1.2]
theorem adel_tree {es : List Ent} {L : List Kls} (T : TreeIs es L) (k : Int) : TreeIs (adel es k) (delC L k) := by
  refine ⟨?_, delC_rising k T.sorted⟩
  rw [adel_perm k T.keysNd]
  have : (L.map ofC).filter (fun p => p.1 != k) = (delC L k).map ofC := by rw [List.filter_map]; rfl
  rw [← this]
  exact T.perm.filter _
/-- Sorting what a sorted list was mixed from. -/
theorem sorted_of_perm {zs ts : List Int} (h : zs.Perm ts) (hs : ts.Pairwise (· < ·)) : sorted zs = ts := by
  refine List.Perm.eq_of_pairwise (le := fun a b => a ≤ b) (fun a b _ _ h1 h2 => by omega) ?_ (hs.imp (fun h => by omega)) ((List.mergeSort_perm _ _).trans h)
  have := List.pairwise_mergeSort (le := fun x y : Int => decide (x ≤ y)) (fun a b c h1 h2 => by simp at *; omega) (fun a b => by simp; omega) zs
  exact this.imp (fun h => by simpa using h)
end Go.Fg.X
namespace Go.Fg.X
open Go.Proofs Go.Fg
set_option maxRecDepth 100000
set_option maxHeartbeats 4000000
set_option linter.unusedSimpArgs false
set_option linter.unusedVariables false
section
variable (h : List Ob) (t m c : Nat) {es : List Ent} {L : List Kls} (T : TreeIs es L)
  (ht : (h.map Ob.ro)[t]? = some ⟨.rone, 0, 1, 1, fun _ => [.mref m 0]⟩) (hm : (h.map Ob.ro)[m]? = some (mapOb .i64 c es).ro)
include T ht hm
theorem hget_ok (id : Int) : RFn0 Tryz.prog 96 h [.ptr t 0 0 0, dint id] (fun d => d = .tup [dkl ((findC L id).getD default), dint (if (findC L id).isSome then 0 else 6)]) := by
  have hk := T.look id
  cases hf : findC L id with
  | none =>
    rw [hf, Option.map_none] at hk
    refine RFn0_hx cx_ok 200 Tryz.func96 rfl Tryz.ntmps96 Tryz.results96 rfl fun base w pl F hF hFl hb => ?_
    rw [← hF] at ht hm
    have ht_l := hlt ht
    have hm_l := hlt hm
    simp only [go_sem, Nat.reduceAdd, Nat.reduceSub, Nat.reduceMul, Nat.reduceBEq, Nat.reduceLT, Nat.reduceLeDiff, Nat.reduceEqDiff, Int.reduceToNat, Int.reduceLE, Int.reduceLT, Int.reduceAdd, Int.reduceSub, Int.reduceNeg, Int.reduceBEq, Int.reduceBNe, Nat.reduceBNe, Nat.reduceDiv, Nat.reduceMod, hgetA, hgetL, hgetLk, hsetA, hsetL, hsetLk, List.length_append, List.length_set, List.append_assoc, List.set_set, ht, ht_l, hm, hm_l, hk]
    exact ⟨_, rfl, rfl⟩
  | some x =>
    rw [hf, Option.map_some] at hk
    refine RFn0_hx cx_ok 200 Tryz.func96 rfl Tryz.ntmps96 Tryz.results96 rfl fun base w pl F hF hFl hb => ?_
    rw [← hF] at ht hm
    have ht_l := hlt ht
    have hm_l := hlt hm
    simp only [go_sem, Nat.reduceAdd, Nat.reduceSub, Nat.reduceMul, Nat.reduceBEq, Nat.reduceLT, Nat.reduceLeDiff, Nat.reduceEqDiff, Int.reduceToNat, Int.reduceLE, Int.reduceLT, Int.reduceAdd, Int.reduceSub, Int.reduceNeg, Int.reduceBEq, Int.reduceBNe, Nat.reduceBNe, Nat.reduceDiv, Nat.reduceMod, hgetA, hgetL, hgetLk, hsetA, hsetL, hsetLk, List.length_append, List.length_set, List.append_assoc, List.set_set, ht, ht_l, hm, hm_l, hk]
    exact ⟨_, rfl, rfl⟩
end
end Go.Fg.X
namespace Go.Fg.X
open Go.Proofs Go.Fg
set_option maxRecDepth 100000
set_option maxHeartbeats 4000000
set_option linter.unusedSimpArgs false
set_option linter.unusedVariables false
/-! A heap that began as F; a slice of numbers in it. -/
def ExtF (F H : List Ob) : Prop := ∃ g, H = F ++ g
theorem ExtF.refl (F : List Ob) : ExtF F F := ⟨[], by simp⟩
theorem ExtF.app {F H : List Ob} (h : ExtF F H) (g : List Ob) : ExtF F (H ++ g) := by
  obtain ⟨x, rfl⟩ := h
  exact ⟨x ++ g, by simp⟩
theorem ExtF.set {F H : List Ob} (h : ExtF F H) {lo : Nat} (hl : F.length ≤ lo) (o : Ob) : ExtF F (H.set lo o) := by
  obtain ⟨x, rfl⟩ := h
  exact ⟨x.set (lo - F.length) o, by rw [List.set_append_right _ _ hl]⟩
theorem ExtF.len {F H : List Ob} (h : ExtF F H) : F.length ≤ H.length := by
  obtain ⟨x, rfl⟩ := h
  simp
theorem ExtF.get {F H : List Ob} (h : ExtF F H) {l : Nat} {o : Ob} (e : F[l]? = some o) : H[l]? = some o := by
  obtain ⟨x, rfl⟩ := h
  rw [hgetA (hlt e)]; exact e
/-- A slice of numbers among the objects from n on. -/
def SlcH (n : Nat) (H : List Ob) (d : D) (L : List Int) : Prop := (d = .nil ∧ L = []) ∨ ∃ lo g off row, d = .ref lo g off L.length ∧ n ≤ lo ∧ H[lo]? = some ⟨.arr, g, 1, off + L.length, row⟩ ∧ ∀ i, i < L.length → row (off + i) = [dint (L.getD i 0)]
theorem SlcH.app {n : Nat} {H : List Ob} {d : D} {L : List Int} (h : SlcH n H d L) (g : List Ob) : SlcH n (H ++ g) d L := by
  rcases h with h | ⟨lo, gg, off, row, h1, h2, h3, h4⟩
  · exact .inl h
  · exact .inr ⟨lo, gg, off, row, h1, h2, by rw [hgetA (hlt h3)]; exact h3, h4⟩
theorem SlcH.base {F h g : List Ob} {d : D} {L : List Int} (hl : F.length = h.length) (x : SlcH F.length (F ++ g) d L) : SlcH h.length (h ++ g) d L := by
  rcases x with x | ⟨lo, gg, off, row, h1, h2, h3, h4⟩
  · exact .inl x
  · refine .inr ⟨lo, gg, off, row, h1, by omega, ?_, h4⟩
    rw [List.getElem?_append_right (by omega)] at h3 ⊢
    rw [← hl]; exact h3
theorem SlcH.done {F h H : List Ob} {d : D} {L : List Int} (hl : F.length = h.length) (hx : ExtF F H) (x : SlcH F.length H d L) : ∃ g, H = F ++ g ∧ SlcH h.length (h ++ g) d L := by
  obtain ⟨g, rfl⟩ := hx
  exact ⟨g, rfl, x.base hl⟩
theorem slc_push {dn : List Int} {off : Nat} {row : Nat → List D} {v : Int} (hr : ∀ i, i < dn.length → row (off + i) = [dint (dn.getD i 0)]) : ∀ i, i < (dn ++ [v]).length → appRow dn.length off row (fun _ => [dint v]) (0 + i) = [dint ((dn ++ [v]).getD i 0)] := fun i hi => by
  rw [Nat.zero_add]
  simp at hi
  by_cases h1 : i < dn.length
  · rw [appRow_lt h1, hr i h1]; simp [h1, List.getElem?_append_left h1]
  · have : i = dn.length := by omega
    subst this
    rw [appRow_ge (Nat.le_refl _)]; simp
theorem roro_get {h : List Ob} {l : Nat} {o : Ob} (e : h[l]? = some o.ro) : (h.map Ob.ro)[l]? = some o.ro := by have := ro_get e; rwa [ro_ro] at this
def upF (L : List Kls) : Nat → Int → List Int
  | 0, _ => []
  | n + 1, id => match findC L id with
    | none => []
    | some c => id :: upF L n c.parent
def Ends (L : List Kls) : Nat → Int → Prop
  | 0, id => findC L id = none
  | n + 1, id => match findC L id with
    | none => True
    | some c => Ends L n c.parent
structure UpInv (t : Nat) (L : List Kls) (N : Nat) (id : Int) (F : List Ob) (n : Nat) (s : St) : Prop where
  ex : ∃ dn cur d H, dn ++ upF L n cur = upF L N id ∧ dn.length + n ≤ N + 1 ∧ Ends L n cur ∧ ExtF F H ∧ SlcH F.length H d dn ∧ s = ⟨[(0, .ptr t 0 0 0), (1, dint cur), (5, d)], H⟩
section
variable (h : List Ob) (t m c : Nat) {es : List Ent} {L : List Kls} (T : TreeIs es L)
  (ht : (h.map Ob.ro)[t]? = some ⟨.rone, 0, 1, 1, fun _ => [.mref m 0]⟩) (hm : (h.map Ob.ro)[m]? = some (mapOb .i64 c es).ro)
include T ht hm
theorem hup_ok (id : Int) (N : Nat) (hN : N < 1000000) (hE : Ends L N id) : RFn Tryz.prog 67 h [.ptr t 0 0 0, dint id] (fun d g => SlcH h.length (h ++ g) d (upF L N id)) := by
  refine RFn_hx cx_ok 200 Tryz.func67 rfl Tryz.ntmps67 Tryz.results67 rfl fun base w pl F hF hFl hb => ?_
  rw [← hF] at ht hm
  have ht_l := hlt ht
  have hm_l := hlt hm
  simp only [go_sem, Nat.reduceAdd, Nat.reduceSub, Nat.reduceMul, Nat.reduceBEq, Nat.reduceLT, Nat.reduceLeDiff, Nat.reduceEqDiff, Int.reduceToNat, Int.reduceLE, Int.reduceLT, Int.reduceAdd, Int.reduceSub, Int.reduceNeg, Int.reduceBEq, Int.reduceBNe, Nat.reduceBNe, Nat.reduceDiv, Nat.reduceMod, hgetA, hgetL, hgetLk, hsetA, hsetL, hsetLk, List.length_append, List.length_set, List.append_assoc, List.set_set, ht, ht_l, hm, hm_l]
  refine kont_loop (UpInv t L N id F) N (s0 := ⟨[(0, .ptr t 0 0 0), (1, dint id), (5, .nil)], F⟩) (Weak.frame (by simp only [go_sem, Nat.reduceAdd, Nat.reduceSub, Nat.reduceMul, Nat.reduceBEq, Nat.reduceLT, Nat.reduceLeDiff, Nat.reduceEqDiff, Int.reduceToNat, Int.reduceLE, Int.reduceLT, Int.reduceAdd, Int.reduceSub, Int.reduceNeg, Int.reduceBEq, Int.reduceBNe, Nat.reduceBNe, Nat.reduceDiv, Nat.reduceMod])) ⟨[], id, .nil, F, rfl, by simp, hE, ExtF.refl F, .inl ⟨rfl, rfl⟩, rfl⟩ ?_
  rintro n s ⟨dn, cur, d, H, h1, h2, h3, hx, hs, rfl⟩
  have hFH := hx.len
  have ht2 := hx.get ht
  have hm2 := hx.get hm
  have ht2_l := hlt ht2
  have hm2_l := hlt hm2
  have hg := hget_ok H t m c T (ro_get ht2) (roro_get hm2) cur
  refine kont_of_hx cx_ok hb 200 ?_
  simp only [go_sem, Nat.reduceAdd, Nat.reduceSub, Nat.reduceMul, Nat.reduceBEq, Nat.reduceLT, Nat.reduceLeDiff, Nat.reduceEqDiff, Int.reduceToNat, Int.reduceLE, Int.reduceLT, Int.reduceAdd, Int.reduceSub, Int.reduceNeg, Int.reduceBEq, Int.reduceBNe, Nat.reduceBNe, Nat.reduceDiv, Nat.reduceMod, hgetA, hgetL, hgetLk, hsetA, hsetL, hsetLk, List.length_append, List.length_set, List.append_assoc, List.set_set]
  cases hf : findC L cur with
  | none =>
    rw [hf] at hg
    simp only [Option.isSome_none, Bool.false_eq_true, if_false] at hg
    refine kont_callR0 hb fn96 rfl ?_ hg rfl fun d hR => ?_
    · simp only [go_sem, Nat.reduceAdd, Nat.reduceSub, Nat.reduceMul, Nat.reduceBEq, Nat.reduceLT, Nat.reduceLeDiff, Nat.reduceEqDiff, Int.reduceToNat, Int.reduceLE, Int.reduceLT, Int.reduceAdd, Int.reduceSub, Int.reduceNeg, Int.reduceBEq, Int.reduceBNe, Nat.reduceBNe, Nat.reduceDiv, Nat.reduceMod, hgetA, hgetL, hgetLk, hsetA, hsetL, hsetLk, List.length_append, List.length_set, List.append_assoc, List.set_set, ht2, hm2, ht2_l, hm2_l]
    subst hR
    refine kont_of_hx cx_ok hb 200 ?_
    simp only [go_sem, Nat.reduceAdd, Nat.reduceSub, Nat.reduceMul, Nat.reduceBEq, Nat.reduceLT, Nat.reduceLeDiff, Nat.reduceEqDiff, Int.reduceToNat, Int.reduceLE, Int.reduceLT, Int.reduceAdd, Int.reduceSub, Int.reduceNeg, Int.reduceBEq, Int.reduceBNe, Nat.reduceBNe, Nat.reduceDiv, Nat.reduceMod, hgetA, hgetL, hgetLk, hsetA, hsetL, hsetLk, List.length_append, List.length_set, List.append_assoc, List.set_set, ht2, hm2, ht2_l, hm2_l]
    have e0 : upF L n cur = [] := by cases n with
      | zero => rfl
      | succ n => simp only [upF, hf]
    rw [e0, List.append_nil] at h1
    rw [← h1]
    exact SlcH.done hFl (hx.app _) (hs.app _)
  | some x =>
    rw [hf] at hg
    simp only [Option.isSome_some, if_true, Option.getD_some] at hg
    obtain ⟨n, rfl⟩ : ∃ n', n = n' + 1 := by
      cases n with
      | zero => rw [Ends, hf] at h3; cases h3
      | succ n => exact ⟨n, rfl⟩
    have h3' : Ends L n x.parent := by simpa only [Ends, hf] using h3
    have h1' : (dn ++ [cur]) ++ upF L n x.parent = upF L N id := by rw [← h1]; simp only [upF, hf, List.append_assoc, List.singleton_append]
    rcases hs with ⟨rfl, rfl⟩ | ⟨lo, g, off, row, rfl, hlo, ho, hr⟩
    · refine kont_callR0 hb fn96 rfl ?_ hg rfl fun d hR => ?_
      · simp only [go_sem, Nat.reduceAdd, Nat.reduceSub, Nat.reduceMul, Nat.reduceBEq, Nat.reduceLT, Nat.reduceLeDiff, Nat.reduceEqDiff, Int.reduceToNat, Int.reduceLE, Int.reduceLT, Int.reduceAdd, Int.reduceSub, Int.reduceNeg, Int.reduceBEq, Int.reduceBNe, Nat.reduceBNe, Nat.reduceDiv, Nat.reduceMod, hgetA, hgetL, hgetLk, hsetA, hsetL, hsetLk, List.length_append, List.length_set, List.append_assoc, List.set_set, ht2, hm2, ht2_l, hm2_l]
      subst hR
      refine kont_of_hx cx_ok hb 200 ?_
      simp only [go_sem, Nat.reduceAdd, Nat.reduceSub, Nat.reduceMul, Nat.reduceBEq, Nat.reduceLT, Nat.reduceLeDiff, Nat.reduceEqDiff, Int.reduceToNat, Int.reduceLE, Int.reduceLT, Int.reduceAdd, Int.reduceSub, Int.reduceNeg, Int.reduceBEq, Int.reduceBNe, Nat.reduceBNe, Nat.reduceDiv, Nat.reduceMod, hgetA, hgetL, hgetLk, hsetA, hsetL, hsetLk, List.length_append, List.length_set, List.append_assoc, List.set_set, ht2, hm2, ht2_l, hm2_l]
      refine ⟨n, ⟨[(0, .ptr t 0 0 0), (1, dint x.parent), (5, .ref (H.length + 2) 0 0 1)], _⟩, by omega, Weak.frame (by simp only [go_sem, Nat.reduceAdd, Nat.reduceSub, Nat.reduceMul, Nat.reduceBEq, Nat.reduceLT, Nat.reduceLeDiff, Nat.reduceEqDiff, Int.reduceToNat, Int.reduceLE, Int.reduceLT, Int.reduceAdd, Int.reduceSub, Int.reduceNeg, Int.reduceBEq, Int.reduceBNe, Nat.reduceBNe, Nat.reduceDiv, Nat.reduceMod]), ⟨⟨[cur], x.parent, _, _, h1', by simp at h2 ⊢; omega, h3', hx.app _, .inr ⟨H.length + 2, 0, 0, _, rfl, by omega, by rw [hgetLk rfl]; rfl, fun i hi => ?_⟩, rfl⟩⟩⟩
      have : i = 0 := by simp at hi; omega
      subst this; rfl
    · have ho_l := hlt ho
      refine kont_callR0 hb fn96 rfl ?_ hg rfl fun d hR => ?_
      · simp only [go_sem, Nat.reduceAdd, Nat.reduceSub, Nat.reduceMul, Nat.reduceBEq, Nat.reduceLT, Nat.reduceLeDiff, Nat.reduceEqDiff, Int.reduceToNat, Int.reduceLE, Int.reduceLT, Int.reduceAdd, Int.reduceSub, Int.reduceNeg, Int.reduceBEq, Int.reduceBNe, Nat.reduceBNe, Nat.reduceDiv, Nat.reduceMod, hgetA, hgetL, hgetLk, hsetA, hsetL, hsetLk, List.length_append, List.length_set, List.append_assoc, List.set_set, ht2, hm2, ht2_l, hm2_l, ho, ho_l]
      subst hR
      refine kont_of_hx cx_ok hb 200 ?_
      simp only [go_sem, Nat.reduceAdd, Nat.reduceSub, Nat.reduceMul, Nat.reduceBEq, Nat.reduceLT, Nat.reduceLeDiff, Nat.reduceEqDiff, Int.reduceToNat, Int.reduceLE, Int.reduceLT, Int.reduceAdd, Int.reduceSub, Int.reduceNeg, Int.reduceBEq, Int.reduceBNe, Nat.reduceBNe, Nat.reduceDiv, Nat.reduceMod, hgetA, hgetL, hgetLk, hsetA, hsetL, hsetLk, List.length_append, List.length_set, List.append_assoc, List.set_set, ht2, hm2, ht2_l, hm2_l, ho, ho_l]
      refine ⟨by omega, n, ⟨[(0, .ptr t 0 0 0), (1, dint x.parent), (5, .ref lo (g + 1) 0 (dn.length + 1))], _⟩, by omega, Weak.frame (by simp only [go_sem, Nat.reduceAdd, Nat.reduceSub, Nat.reduceMul, Nat.reduceBEq, Nat.reduceLT, Nat.reduceLeDiff, Nat.reduceEqDiff, Int.reduceToNat, Int.reduceLE, Int.reduceLT, Int.reduceAdd, Int.reduceSub, Int.reduceNeg, Int.reduceBEq, Int.reduceBNe, Nat.reduceBNe, Nat.reduceDiv, Nat.reduceMod]), ⟨⟨dn ++ [cur], x.parent, _, _, h1', ?_, h3', ?_, ?_, rfl⟩⟩⟩
      · simp at h2 ⊢; omega
      · exact (hx.set hlo _).app _
      · refine .inr ⟨lo, g + 1, 0, _, by simp, by omega, ?_, slc_push hr⟩
        rw [hgetA (by simpa using ho_l), hgetS ho_l]
        simp [dint]
end
end Go.Fg.X
namespace Go.Fg.X
open Go.Proofs Go.Fg
set_option maxRecDepth 100000
set_option maxHeartbeats 4000000
set_option linter.unusedSimpArgs false
set_option linter.unusedVariables false
def sharesC (L : List Kls) (id : Int) : Bool := id == 0 || decide (1 < ofI ((findC L id).getD default).ls)
section
variable (h : List Ob) (t m c : Nat) {es : List Ent} {L : List Kls} (T : TreeIs es L)
  (ht : (h.map Ob.ro)[t]? = some ⟨.rone, 0, 1, 1, fun _ => [.mref m 0]⟩) (hm : (h.map Ob.ro)[m]? = some (mapOb .i64 c es).ro)
include T ht hm
theorem hdepth_ok (id : Int) (N : Nat) (hN : N < 1000000) (hE : Ends L N id) : RFn0 Tryz.prog 34 h [.ptr t 0 0 0, dint id] (fun d => d = dint (upF L N id).length) := by
  refine RFn0_hx cx_ok 200 Tryz.func34 rfl Tryz.ntmps34 Tryz.results34 rfl fun base w pl F hF hFl hb => ?_
  rw [← hF] at ht hm
  have ht_l := hlt ht
  have hm_l := hlt hm
  simp only [go_sem, Nat.reduceAdd, Nat.reduceSub, Nat.reduceMul, Nat.reduceBEq, Nat.reduceLT, Nat.reduceLeDiff, Nat.reduceEqDiff, Int.reduceToNat, Int.reduceLE, Int.reduceLT, Int.reduceAdd, Int.reduceSub, Int.reduceNeg, Int.reduceBEq, Int.reduceBNe, Nat.reduceBNe, Nat.reduceDiv, Nat.reduceMod, hgetA, hgetL, hgetLk, hsetA, hsetL, hsetLk, List.length_append, List.length_set, List.append_assoc, List.set_set, ht, ht_l, hm, hm_l]
  refine kont_callR hb fn67 rfl ?_ (hup_ok F t m c T (ro_get ht) (roro_get hm) id N hN hE) rfl fun d g2 hs => ?_
  · simp only [go_sem, Nat.reduceAdd, Nat.reduceSub, Nat.reduceMul, Nat.reduceBEq, Nat.reduceLT, Nat.reduceLeDiff, Nat.reduceEqDiff, Int.reduceToNat, Int.reduceLE, Int.reduceLT, Int.reduceAdd, Int.reduceSub, Int.reduceNeg, Int.reduceBEq, Int.reduceBNe, Nat.reduceBNe, Nat.reduceDiv, Nat.reduceMod]
  rcases hs with ⟨rfl, h0⟩ | ⟨lo, g, off, row, rfl, hlo, ho, hr⟩
  · refine kont_of_hx cx_ok hb 200 ?_
    simp only [go_sem, Nat.reduceAdd, Nat.reduceSub, Nat.reduceMul, Nat.reduceBEq, Nat.reduceLT, Nat.reduceLeDiff, Nat.reduceEqDiff, Int.reduceToNat, Int.reduceLE, Int.reduceLT, Int.reduceAdd, Int.reduceSub, Int.reduceNeg, Int.reduceBEq, Int.reduceBNe, Nat.reduceBNe, Nat.reduceDiv, Nat.reduceMod, hgetA, hgetL, hgetLk, hsetA, hsetL, hsetLk, List.length_append, List.length_set, List.append_assoc, List.set_set, h0]
    exact ⟨_, rfl⟩
  · have ho_l := hlt ho
    refine kont_of_hx cx_ok hb 200 ?_
    simp only [go_sem, Nat.reduceAdd, Nat.reduceSub, Nat.reduceMul, Nat.reduceBEq, Nat.reduceLT, Nat.reduceLeDiff, Nat.reduceEqDiff, Int.reduceToNat, Int.reduceLE, Int.reduceLT, Int.reduceAdd, Int.reduceSub, Int.reduceNeg, Int.reduceBEq, Int.reduceBNe, Nat.reduceBNe, Nat.reduceDiv, Nat.reduceMod, hgetA, hgetL, hgetLk, hsetA, hsetL, hsetLk, List.length_append, List.length_set, List.append_assoc, List.set_set, ho, ho_l]
    exact ⟨_, rfl⟩
theorem hshares_ok (id : Int) : RFn0 Tryz.prog 33 h [.ptr t 0 0 0, dint id] (fun d => d = dbool (sharesC L id)) := by
  by_cases h0 : id = 0
  · have e : sharesC L id = true := by simp [sharesC, h0]
    rw [e]
    refine RFn0_hx cx_ok 200 Tryz.func33 rfl Tryz.ntmps33 Tryz.results33 rfl fun base w pl F hF hFl hb => ?_
    rw [← hF] at ht hm
    have ht_l := hlt ht
    have hm_l := hlt hm
    simp only [go_sem, Nat.reduceAdd, Nat.reduceSub, Nat.reduceMul, Nat.reduceBEq, Nat.reduceLT, Nat.reduceLeDiff, Nat.reduceEqDiff, Int.reduceToNat, Int.reduceLE, Int.reduceLT, Int.reduceAdd, Int.reduceSub, Int.reduceNeg, Int.reduceBEq, Int.reduceBNe, Nat.reduceBNe, Nat.reduceDiv, Nat.reduceMod, hgetA, hgetL, hgetLk, hsetA, hsetL, hsetLk, List.length_append, List.length_set, List.append_assoc, List.set_set, ht, ht_l, hm, hm_l, beqT h0]
    exact ⟨[], by simp⟩
  · have hk := T.look id
    have e : sharesC L id = decide (1 < ofI ((findC L id).getD default).ls) := by simp [sharesC, h0]
    rw [e]
    cases hf : findC L id with
    | none =>
      rw [hf, Option.map_none] at hk
      refine RFn0_hx cx_ok 200 Tryz.func33 rfl Tryz.ntmps33 Tryz.results33 rfl fun base w pl F hF hFl hb => ?_
      rw [← hF] at ht hm
      have ht_l := hlt ht
      have hm_l := hlt hm
      simp only [go_sem, Nat.reduceAdd, Nat.reduceSub, Nat.reduceMul, Nat.reduceBEq, Nat.reduceLT, Nat.reduceLeDiff, Nat.reduceEqDiff, Int.reduceToNat, Int.reduceLE, Int.reduceLT, Int.reduceAdd, Int.reduceSub, Int.reduceNeg, Int.reduceBEq, Int.reduceBNe, Nat.reduceBNe, Nat.reduceDiv, Nat.reduceMod, hgetA, hgetL, hgetLk, hsetA, hsetL, hsetLk, List.length_append, List.length_set, List.append_assoc, List.set_set, ht, ht_l, hm, hm_l, hk, beqF h0]
      refine kont_call hb fn32 rfl ?_ (sshares_ok ⟨0, 0, false, ⟨0, 0, 0⟩, ⟨0, 0, 0⟩, ⟨0, 0, 0⟩, 0, 0⟩) (Ret.flat rfl) rfl fun d h hR => ?_
      · simp only [go_sem, Nat.reduceAdd, Nat.reduceSub, Nat.reduceMul, Nat.reduceBEq, Nat.reduceLT, Nat.reduceLeDiff, Nat.reduceEqDiff, Int.reduceToNat, Int.reduceLE, Int.reduceLT, Int.reduceAdd, Int.reduceSub, Int.reduceNeg, Int.reduceBEq, Int.reduceBNe, Nat.reduceBNe, Nat.reduceDiv, Nat.reduceMod, hgetA, hgetL, hgetLk, hsetA, hsetL, hsetLk, List.length_append, List.length_set, List.append_assoc, List.set_set]
      obtain ⟨rfl, rfl⟩ := hR
      refine kont_of_hx cx_ok hb 200 ?_
      simp only [go_sem, Nat.reduceAdd, Nat.reduceSub, Nat.reduceMul, Nat.reduceBEq, Nat.reduceLT, Nat.reduceLeDiff, Nat.reduceEqDiff, Int.reduceToNat, Int.reduceLE, Int.reduceLT, Int.reduceAdd, Int.reduceSub, Int.reduceNeg, Int.reduceBEq, Int.reduceBNe, Nat.reduceBNe, Nat.reduceDiv, Nat.reduceMod, hgetA, hgetL, hgetLk, hsetA, hsetL, hsetLk, List.length_append, List.length_set, List.append_assoc, List.set_set]
      exact ⟨[], (List.append_nil F).symm, rfl⟩
    | some x =>
      rw [hf, Option.map_some] at hk
      refine RFn0_hx cx_ok 200 Tryz.func33 rfl Tryz.ntmps33 Tryz.results33 rfl fun base w pl F hF hFl hb => ?_
      rw [← hF] at ht hm
      have ht_l := hlt ht
      have hm_l := hlt hm
      simp only [go_sem, Nat.reduceAdd, Nat.reduceSub, Nat.reduceMul, Nat.reduceBEq, Nat.reduceLT, Nat.reduceLeDiff, Nat.reduceEqDiff, Int.reduceToNat, Int.reduceLE, Int.reduceLT, Int.reduceAdd, Int.reduceSub, Int.reduceNeg, Int.reduceBEq, Int.reduceBNe, Nat.reduceBNe, Nat.reduceDiv, Nat.reduceMod, hgetA, hgetL, hgetLk, hsetA, hsetL, hsetLk, List.length_append, List.length_set, List.append_assoc, List.set_set, ht, ht_l, hm, hm_l, hk, beqF h0]
      refine kont_call hb fn32 rfl ?_ (sshares_ok x) (Ret.flat rfl) rfl fun d h hR => ?_
      · simp only [go_sem, Nat.reduceAdd, Nat.reduceSub, Nat.reduceMul, Nat.reduceBEq, Nat.reduceLT, Nat.reduceLeDiff, Nat.reduceEqDiff, Int.reduceToNat, Int.reduceLE, Int.reduceLT, Int.reduceAdd, Int.reduceSub, Int.reduceNeg, Int.reduceBEq, Int.reduceBNe, Nat.reduceBNe, Nat.reduceDiv, Nat.reduceMod, hgetA, hgetL, hgetLk, hsetA, hsetL, hsetLk, List.length_append, List.length_set, List.append_assoc, List.set_set]
      obtain ⟨rfl, rfl⟩ := hR
      refine kont_of_hx cx_ok hb 200 ?_
      simp only [go_sem, Nat.reduceAdd, Nat.reduceSub, Nat.reduceMul, Nat.reduceBEq, Nat.reduceLT, Nat.reduceLeDiff, Nat.reduceEqDiff, Int.reduceToNat, Int.reduceLE, Int.reduceLT, Int.reduceAdd, Int.reduceSub, Int.reduceNeg, Int.reduceBEq, Int.reduceBNe, Nat.reduceBNe, Nat.reduceDiv, Nat.reduceMod, hgetA, hgetL, hgetLk, hsetA, hsetL, hsetLk, List.length_append, List.length_set, List.append_assoc, List.set_set]
      exact ⟨[], by simp⟩
end
end Go.Fg.X
namespace Go.Fg.X
open Go.Proofs Go.Fg
set_option maxRecDepth 100000
set_option maxHeartbeats 4000000
set_option linter.unusedSimpArgs false
set_option linter.unusedVariables false
def sel (L : List Kls) (g : Kls → Bool) (k : Int) : Bool := ((findC L k).map g).getD false
theorem filt_same {es : List Ent} {seen : List Nat} {b : Nat} (p : Ent → Bool) (h : ∀ e ∈ es, e.b ≠ b) : (es.filter fun x => (seen ++ [b]).contains x.b && p x) = es.filter fun x => seen.contains x.b && p x := by
  apply List.filter_congr
  intro x hx
  have := h x hx
  simp [this]
theorem filt_step : ∀ {es : List Ent} {seen : List Nat} {e : Ent} (p : Ent → Bool), (es.map (·.b)).Nodup → e ∈ es → e.b ∉ seen → (es.filter fun x => (seen ++ [e.b]).contains x.b && p x).Perm (if p e then e :: es.filter (fun x => seen.contains x.b && p x) else es.filter fun x => seen.contains x.b && p x)
  | [], _, _, _, _, h, _ => by simp at h
  | x :: es, seen, e, p, hn, h, hs => by
    simp only [List.map_cons, List.nodup_cons, List.mem_map, not_exists, not_and] at hn
    rcases List.mem_cons.1 h with h1 | h1
    · subst h1
      have e1 := filt_same (seen := seen) (b := e.b) p (es := es) fun y hy he => hn.1 y hy he
      have hc : seen.contains e.b = false := by simpa using hs
      rw [List.filter_cons, List.filter_cons, e1]
      simp only [hc, Bool.false_and, Bool.false_eq_true, if_false]
      have : (seen ++ [e.b]).contains e.b = true := by simp
      rw [this, Bool.true_and]
    · have ih := filt_step p hn.2 h1 hs
      have hne : x.b ≠ e.b := fun he => hn.1 e h1 he.symm
      have hc : (seen ++ [e.b]).contains x.b = seen.contains x.b := by simp [hne]
      rw [List.filter_cons, List.filter_cons, hc]
      by_cases h2 : (seen.contains x.b && p x) = true
      · rw [if_pos h2, if_pos h2]
        by_cases h3 : p e = true
        · rw [if_pos h3] at ih ⊢
          exact (ih.cons x).trans (List.Perm.swap _ _ _)
        · rw [if_neg h3] at ih ⊢
          exact ih.cons x
      · rw [if_neg h2, if_neg h2]
        exact ih
theorem TreeIs.ent {es : List Ent} {L : List Kls} (T : TreeIs es L) {e : Ent} (he : e ∈ es) : ∃ x, findC L e.k = some x ∧ e.v = dkl x ∧ x.iD = e.k := by
  have : ofE e ∈ L.map ofC := T.perm.mem_iff.1 (List.mem_map.2 ⟨e, he, rfl⟩)
  obtain ⟨x, hx, e1⟩ := List.mem_map.1 this
  simp only [ofC, ofE, Prod.mk.injEq] at e1
  exact ⟨x, (findC_iff T.sorted).2 ⟨hx, e1.1⟩, e1.2.symm, e1.1⟩
theorem TreeIs.pick {es : List Ent} {L : List Kls} (T : TreeIs es L) (g : Kls → Bool) : ((es.filter fun e => sel L g e.k).map (·.k)).Perm ((L.filter g).map (·.iD)) := by
  have h1 := (T.perm.filter fun p => sel L g p.1).map Prod.fst
  have e1 : ((es.map ofE).filter fun p => sel L g p.1).map Prod.fst = (es.filter fun e => sel L g e.k).map (·.k) := by
    rw [List.filter_map, List.map_map]; rfl
  have e2 : ((L.map ofC).filter fun p => sel L g p.1).map Prod.fst = (L.filter g).map (·.iD) := by
    rw [List.filter_map, List.map_map]
    have : L.filter ((fun p => sel L g p.1) ∘ ofC) = L.filter g := List.filter_congr fun x hx => by
      have := (findC_iff T.sorted).2 ⟨hx, rfl⟩
      simp [sel, ofC, this]
    rw [this]; rfl
  rw [e1, e2] at h1
  exact h1
theorem pick_rising {L : List Kls} (h : Rising L) (g : Kls → Bool) : ((L.filter g).map (·.iD)).Pairwise (· < ·) := by
  rw [List.pairwise_map]
  exact List.Pairwise.filter g h
open Go.Shelf in
theorem sort_nil {P : Program} {ρ : Ren} (Ly : Lays.n189 P ρ) (h : List Ob) : MFn P (ρ.f 189) h [.nil] (fun d h' => d = .tup [] ∧ h' = h) := by
  intro Z base w pl vs hbase hZ R hvl hv
  match vs, hvl with
  | [v], _ =>
  obtain ⟨a, e1⟩ := inv_nil (hv 0 (by simp))
  have e1 : v = _ := e1
  subst e1
  refine (Any.slices_Sort_int_none Ly a 0 w).mono ?_
  rintro e w' ⟨rfl, rfl⟩
  exact ⟨_, .tup [], h, pl, rfl, ⟨rfl, rfl⟩, R, .tup [] [] rfl (fun i hi => by simp at hi), Tr.refl _ _ _, .refl _ _⟩
open Go.Shelf in
def Tryz.laysSort_ren : Go.Shelf.Ren := ⟨fun | 189 => 97 | 125 => 121 | 257 => 120 | 128 => 136 | 129 => 137 | 294 => 127 | 295 => 128 | 296 => 129 | 297 => 130 | 298 => 131 | 299 => 132 | 216 => 133 | 300 => 134 | 301 => 135 | 328 => 147 | 329 => 148 | 330 => 149 | 331 => 150 | 332 => 151 | 215 => 152 | 343 => 157 | n => n, fun | 28 => 74 | 3 => 3 | 46 => 114 | 0 => 0 | 51 => 193 | 53 => 30 | 4 => 4 | 183 => 185 | 182 => 184 | 131 => 190 | 5 => 5 | 9 => 9 | 218 => 201 | 222 => 205 | 228 => 209 | 229 => 210 | n => n, fun | n => n⟩
theorem Tryz.laysSort : Go.Proofs.Lays.n189 Tryz.prog Tryz.laysSort_ren := {
  mixed := by kernel_rfl
  f125 := Tryz.func121.trans (congrArg some (by kernel_rfl))
  f128 := Tryz.func136.trans (congrArg some (by kernel_rfl))
  f129 := Tryz.func137.trans (congrArg some (by kernel_rfl))
  f189 := Tryz.func97.trans (congrArg some (by kernel_rfl))
  f215 := Tryz.func152.trans (congrArg some (by kernel_rfl))
  f216 := Tryz.func133.trans (congrArg some (by kernel_rfl))
  f257 := Tryz.func120.trans (congrArg some (by kernel_rfl))
  f294 := Tryz.func127.trans (congrArg some (by kernel_rfl))
  f295 := Tryz.func128.trans (congrArg some (by kernel_rfl))
  f296 := Tryz.func129.trans (congrArg some (by kernel_rfl))
  f297 := Tryz.func130.trans (congrArg some (by kernel_rfl))
  f298 := Tryz.func131.trans (congrArg some (by kernel_rfl))
  f299 := Tryz.func132.trans (congrArg some (by kernel_rfl))
  f300 := Tryz.func134.trans (congrArg some (by kernel_rfl))
  f301 := Tryz.func135.trans (congrArg some (by kernel_rfl))
  f328 := Tryz.func147.trans (congrArg some (by kernel_rfl))
  f329 := Tryz.func148.trans (congrArg some (by kernel_rfl))
  f330 := Tryz.func149.trans (congrArg some (by kernel_rfl))
  f331 := Tryz.func150.trans (congrArg some (by kernel_rfl))
  f332 := Tryz.func151.trans (congrArg some (by kernel_rfl))
  f343 := Tryz.func157.trans (congrArg some (by kernel_rfl))
  t0 := Tryz.underlying0
  a0 := Tryz.isAgg0
  z0 := Tryz.sizeOf0
  v0 := Tryz.zeroValue0
  t3 := Tryz.underlying3
  a3 := Tryz.isAgg3
  z3 := Tryz.sizeOf3
  v3 := Tryz.zeroValue3
  t4 := Tryz.underlying4
  a4 := Tryz.isAgg4
  z4 := Tryz.sizeOf4
  v4 := Tryz.zeroValue4
  t5 := Tryz.underlying5
  a5 := Tryz.isAgg5
  z5 := Tryz.sizeOf5
  v5 := Tryz.zeroValue5
  t9 := Tryz.underlying9
  a9 := Tryz.isAgg9
  z9 := Tryz.sizeOf9
  v9 := Tryz.zeroValue9
  t28 := Tryz.underlying74
  a28 := Tryz.isAgg74
  z28 := Tryz.sizeOf74
  v28 := Tryz.zeroValue74
  t46 := Tryz.underlying114
  a46 := Tryz.isAgg114
  z46 := Tryz.sizeOf114
  v46 := Tryz.zeroValue114
  t51 := Tryz.underlying193
  a51 := Tryz.isAgg193
  z51 := Tryz.sizeOf193
  v51 := Tryz.zeroValue193
  t53 := Tryz.underlying30
  a53 := Tryz.isAgg30
  z53 := Tryz.sizeOf30
  v53 := Tryz.zeroValue30
  t131 := Tryz.underlying190
  a131 := Tryz.isAgg190
  z131 := Tryz.sizeOf190
  v131 := Tryz.zeroValue190
  t182 := Tryz.underlying184
  a182 := Tryz.isAgg184
  z182 := Tryz.sizeOf184
  v182 := Tryz.zeroValue184
  t183 := Tryz.underlying185
  a183 := Tryz.isAgg185
  z183 := Tryz.sizeOf185
  v183 := Tryz.zeroValue185
  t218 := Tryz.underlying201
  a218 := Tryz.isAgg201
  z218 := Tryz.sizeOf201
  v218 := Tryz.zeroValue201
  t222 := Tryz.underlying205
  a222 := Tryz.isAgg205
  z222 := Tryz.sizeOf205
  v222 := Tryz.zeroValue205
  t228 := Tryz.underlying209
  a228 := Tryz.isAgg209
  z228 := Tryz.sizeOf209
  v228 := Tryz.zeroValue209
  t229 := Tryz.underlying210
  a229 := Tryz.isAgg210
  z229 := Tryz.sizeOf210
  v229 := Tryz.zeroValue210 }
end Go.Fg.X
