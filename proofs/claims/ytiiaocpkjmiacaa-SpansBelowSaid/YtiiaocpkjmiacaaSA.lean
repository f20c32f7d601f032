/- Walks of the functions that the statement reaches. No conditions: contracts and laws. -/
import Derived.Test.YtiiaocpkjmiacaaYHm
import Derived.Test.YtiiaocpkjmiacaaFgSort
import Derived.Test.YtiiaocpkjmiacaaYHa
namespace Go.Fg.X
open Go.Proofs Go.Fg
set_option maxRecDepth 100000
set_option maxHeartbeats 4000000
set_option linter.unusedSimpArgs false
set_option linter.unusedVariables false
theorem rputc_ok (L : List Kls) (x : Kls) (hl : L.length < 1000000) : AFn Try.prog 103 [kls L, dkl x] (Ret (kls (putOut L x))) := freezeS (fun _ => rfl) (rput_ok L x hl)
theorem rupc_ok (L : List Kls) (id : Int) (hl : L.length < 1000000) : AFn Try.prog 70 [kls L, dint id] (Ret (ints (upF L 70 id))) := freezeS (fun _ => rfl) (rup_ok L id hl)
theorem rchildrenc_ok (L : List Kls) (id : Int) (hl : L.length < 1000000) : AFn Try.prog 104 [kls L, dint id] (Ret (ints (childC L id))) := freezeS (fun _ => rfl) (rchildren_ok L id hl)
/-- What comes of a class that is to be put. -/
def addRE (L : List Kls) (x : Kls) : Int :=
  if wrongV x ≠ 0 then wrongV x else if 0 ≤ findI L x.iD then 8 else if L.length = 64 then 5
  else if x.parent ≠ 0 ∧ (findI L x.parent < 0 ∨ ((findC L x.parent).getD default).leaf = true) then 23
  else if 1 < ofI x.ls ∧ sharesC L x.parent = false then 29 else if 16 ≤ (upF L 70 x.parent).length then 25 else 0
theorem radd_ok (L : List Kls) (x : Kls) (hl : L.length < 1000000) (hn : ∀ c ∈ L, c.Nn) (hx : x.Nn) : AFn Try.prog 61 [kls L, dkl x] (Ret (.agg [kls (if addRE L x = 0 then putOut L x else L), dint (addRE L x)])) := by
  have hw : wrongV x ≠ 0 ∨ wrongV x = 0 := by omega
  have hnn : ¬ ((-1 : Int) ≥ 0) := by omega
  have calls : True := trivial
  rcases findI_cases L x.parent with ⟨h1, h2⟩ | ⟨i, hi, h2, h1⟩
  · obtain ⟨E, hE⟩ : ∃ E, E = addRE L x := ⟨_, rfl⟩
    rw [← hE]
    rw [addRE, h1, h2] at hE
    refine AFn_hxk 0 cx_ok 200 Try.func61 rfl Try.ntmps61 Try.results61 rfl fun base w hb => ?_
    simp only [go_sem, Nat.reduceAdd, Nat.reduceSub, Nat.reduceMul, Nat.reduceBEq, Nat.reduceLT, Nat.reduceLeDiff, Nat.reduceEqDiff, Int.reduceToNat, Int.reduceLE, Int.reduceLT, Int.reduceAdd, Int.reduceSub, Int.reduceNeg, Int.reduceBEq, Int.reduceBNe, Nat.reduceBNe, Nat.reduceDiv, Nat.reduceMod]
    repeat' (first | ((first | refine hite_dec (fun h => ?_) (fun h => ?_) | refine hite_beq (fun h => ?_) (fun h => ?_) | refine hite_bne (fun h => ?_) (fun h => ?_) | refine hite_intro (fun h => ?_) (fun h => ?_) | refine hite_decA (fun h => ?_) (fun h => ?_) | refine hite_beqA (fun h => ?_) (fun h => ?_) | refine hite_bneA (fun h => ?_) (fun h => ?_) | refine hite_intro' (fun h => ?_) (fun h => ?_)) <;> (try simp only [go_sem, Nat.reduceAdd, Nat.reduceSub, Nat.reduceMul, Nat.reduceBEq, Nat.reduceLT, Nat.reduceLeDiff, Nat.reduceEqDiff, Int.reduceToNat, Int.reduceLE, Int.reduceLT, Int.reduceAdd, Int.reduceSub, Int.reduceNeg, Int.reduceBEq, Int.reduceBNe, Nat.reduceBNe, Nat.reduceDiv, Nat.reduceMod, Go.undef, h2])) | (refine And.intro (by first | assumption | omega) ?_; try simp only [go_sem, Nat.reduceAdd, Nat.reduceSub, Nat.reduceMul, Nat.reduceBEq, Nat.reduceLT, Nat.reduceLeDiff, Nat.reduceEqDiff, Int.reduceToNat, Int.reduceLE, Int.reduceLT, Int.reduceAdd, Int.reduceSub, Int.reduceNeg, Int.reduceBEq, Int.reduceBNe, Nat.reduceBNe, Nat.reduceDiv, Nat.reduceMod, Go.undef, h2]) | (refine kont_call hb fn99 rfl ?_ (wrong_ok x hx) (Ret.flat rfl) rfl ?_; (· simp only [go_sem, Nat.reduceAdd, Nat.reduceSub, Nat.reduceMul, Nat.reduceBEq, Nat.reduceLT, Nat.reduceLeDiff, Nat.reduceEqDiff, Int.reduceToNat, Int.reduceLE, Int.reduceLT, Int.reduceAdd, Int.reduceSub, Int.reduceNeg, Int.reduceBEq, Int.reduceBNe, Nat.reduceBNe, Nat.reduceDiv, Nat.reduceMod, Go.undef, h2]); intro d h hR; obtain ⟨rfl, rfl⟩ := hR; refine kont_of_hx cx_ok hb 200 ?_; simp only [go_sem, Nat.reduceAdd, Nat.reduceSub, Nat.reduceMul, Nat.reduceBEq, Nat.reduceLT, Nat.reduceLeDiff, Nat.reduceEqDiff, Int.reduceToNat, Int.reduceLE, Int.reduceLT, Int.reduceAdd, Int.reduceSub, Int.reduceNeg, Int.reduceBEq, Int.reduceBNe, Nat.reduceBNe, Nat.reduceDiv, Nat.reduceMod, Go.undef, h2]) | (refine kont_call hb fn100 rfl ?_ (rfind_ok L x.iD hl) (Ret.flat rfl) rfl ?_; (· simp only [go_sem, Nat.reduceAdd, Nat.reduceSub, Nat.reduceMul, Nat.reduceBEq, Nat.reduceLT, Nat.reduceLeDiff, Nat.reduceEqDiff, Int.reduceToNat, Int.reduceLE, Int.reduceLT, Int.reduceAdd, Int.reduceSub, Int.reduceNeg, Int.reduceBEq, Int.reduceBNe, Nat.reduceBNe, Nat.reduceDiv, Nat.reduceMod, Go.undef, h2]); intro d h hR; obtain ⟨rfl, rfl⟩ := hR; refine kont_of_hx cx_ok hb 200 ?_; simp only [go_sem, Nat.reduceAdd, Nat.reduceSub, Nat.reduceMul, Nat.reduceBEq, Nat.reduceLT, Nat.reduceLeDiff, Nat.reduceEqDiff, Int.reduceToNat, Int.reduceLE, Int.reduceLT, Int.reduceAdd, Int.reduceSub, Int.reduceNeg, Int.reduceBEq, Int.reduceBNe, Nat.reduceBNe, Nat.reduceDiv, Nat.reduceMod, Go.undef, h2]) | (refine kont_call hb fn100 rfl ?_ (rfind_ok L x.parent hl) (Ret.flat rfl) rfl ?_; (· simp only [go_sem, Nat.reduceAdd, Nat.reduceSub, Nat.reduceMul, Nat.reduceBEq, Nat.reduceLT, Nat.reduceLeDiff, Nat.reduceEqDiff, Int.reduceToNat, Int.reduceLE, Int.reduceLT, Int.reduceAdd, Int.reduceSub, Int.reduceNeg, Int.reduceBEq, Int.reduceBNe, Nat.reduceBNe, Nat.reduceDiv, Nat.reduceMod, Go.undef, h2]); intro d h hR; obtain ⟨rfl, rfl⟩ := hR; refine kont_of_hx cx_ok hb 200 ?_; simp only [go_sem, Nat.reduceAdd, Nat.reduceSub, Nat.reduceMul, Nat.reduceBEq, Nat.reduceLT, Nat.reduceLeDiff, Nat.reduceEqDiff, Int.reduceToNat, Int.reduceLE, Int.reduceLT, Int.reduceAdd, Int.reduceSub, Int.reduceNeg, Int.reduceBEq, Int.reduceBNe, Nat.reduceBNe, Nat.reduceDiv, Nat.reduceMod, Go.undef, h2]) | (refine kont_call hb fn101 rfl ?_ (rofcI_ok x.ls hx.2.1.1 hx.2.1.2.1 hx.2.1.2.2) (Ret.flat rfl) rfl ?_; (· simp only [go_sem, Nat.reduceAdd, Nat.reduceSub, Nat.reduceMul, Nat.reduceBEq, Nat.reduceLT, Nat.reduceLeDiff, Nat.reduceEqDiff, Int.reduceToNat, Int.reduceLE, Int.reduceLT, Int.reduceAdd, Int.reduceSub, Int.reduceNeg, Int.reduceBEq, Int.reduceBNe, Nat.reduceBNe, Nat.reduceDiv, Nat.reduceMod, Go.undef, h2]); intro d h hR; obtain ⟨rfl, rfl⟩ := hR; refine kont_of_hx cx_ok hb 200 ?_; simp only [go_sem, Nat.reduceAdd, Nat.reduceSub, Nat.reduceMul, Nat.reduceBEq, Nat.reduceLT, Nat.reduceLeDiff, Nat.reduceEqDiff, Int.reduceToNat, Int.reduceLE, Int.reduceLT, Int.reduceAdd, Int.reduceSub, Int.reduceNeg, Int.reduceBEq, Int.reduceBNe, Nat.reduceBNe, Nat.reduceDiv, Nat.reduceMod, Go.undef, h2]) | (refine kont_call hb fn102 rfl ?_ (rshares_ok L x.parent hl hn) (Ret.flat rfl) rfl ?_; (· simp only [go_sem, Nat.reduceAdd, Nat.reduceSub, Nat.reduceMul, Nat.reduceBEq, Nat.reduceLT, Nat.reduceLeDiff, Nat.reduceEqDiff, Int.reduceToNat, Int.reduceLE, Int.reduceLT, Int.reduceAdd, Int.reduceSub, Int.reduceNeg, Int.reduceBEq, Int.reduceBNe, Nat.reduceBNe, Nat.reduceDiv, Nat.reduceMod, Go.undef, h2]); intro d h hR; obtain ⟨rfl, rfl⟩ := hR; refine kont_of_hx cx_ok hb 200 ?_; simp only [go_sem, Nat.reduceAdd, Nat.reduceSub, Nat.reduceMul, Nat.reduceBEq, Nat.reduceLT, Nat.reduceLeDiff, Nat.reduceEqDiff, Int.reduceToNat, Int.reduceLE, Int.reduceLT, Int.reduceAdd, Int.reduceSub, Int.reduceNeg, Int.reduceBEq, Int.reduceBNe, Nat.reduceBNe, Nat.reduceDiv, Nat.reduceMod, Go.undef, h2]) | (refine kont_callM hb [] fn70 rfl ?_ (rupc_ok L x.parent hl) rfl ?_; (· simp only [go_sem, Nat.reduceAdd, Nat.reduceSub, Nat.reduceMul, Nat.reduceBEq, Nat.reduceLT, Nat.reduceLeDiff, Nat.reduceEqDiff, Int.reduceToNat, Int.reduceLE, Int.reduceLT, Int.reduceAdd, Int.reduceSub, Int.reduceNeg, Int.reduceBEq, Int.reduceBNe, Nat.reduceBNe, Nat.reduceDiv, Nat.reduceMod, Go.undef, h2]); intro d h hR; obtain ⟨rfl, rfl⟩ := hR; (simp only [go_sem, Nat.reduceAdd, Nat.reduceSub, Nat.reduceMul, Nat.reduceBEq, Nat.reduceLT, Nat.reduceLeDiff, Nat.reduceEqDiff, Int.reduceToNat, Int.reduceLE, Int.reduceLT, Int.reduceAdd, Int.reduceSub, Int.reduceNeg, Int.reduceBEq, Int.reduceBNe, Nat.reduceBNe, Nat.reduceDiv, Nat.reduceMod, Go.undef, h2]); refine kont_of_hx cx_ok hb 200 ?_; simp only [go_sem, Nat.reduceAdd, Nat.reduceSub, Nat.reduceMul, Nat.reduceBEq, Nat.reduceLT, Nat.reduceLeDiff, Nat.reduceEqDiff, Int.reduceToNat, Int.reduceLE, Int.reduceLT, Int.reduceAdd, Int.reduceSub, Int.reduceNeg, Int.reduceBEq, Int.reduceBNe, Nat.reduceBNe, Nat.reduceDiv, Nat.reduceMod, Go.undef, h2]) | (refine kont_callM hb [] fn103 rfl ?_ (rputc_ok L x hl) rfl ?_; (· simp only [go_sem, Nat.reduceAdd, Nat.reduceSub, Nat.reduceMul, Nat.reduceBEq, Nat.reduceLT, Nat.reduceLeDiff, Nat.reduceEqDiff, Int.reduceToNat, Int.reduceLE, Int.reduceLT, Int.reduceAdd, Int.reduceSub, Int.reduceNeg, Int.reduceBEq, Int.reduceBNe, Nat.reduceBNe, Nat.reduceDiv, Nat.reduceMod, Go.undef, h2]); intro d h hR; obtain ⟨rfl, rfl⟩ := hR; (simp only [go_sem, Nat.reduceAdd, Nat.reduceSub, Nat.reduceMul, Nat.reduceBEq, Nat.reduceLT, Nat.reduceLeDiff, Nat.reduceEqDiff, Int.reduceToNat, Int.reduceLE, Int.reduceLT, Int.reduceAdd, Int.reduceSub, Int.reduceNeg, Int.reduceBEq, Int.reduceBNe, Nat.reduceBNe, Nat.reduceDiv, Nat.reduceMod, Go.undef, h2]); refine kont_of_hx cx_ok hb 200 ?_; simp only [go_sem, Nat.reduceAdd, Nat.reduceSub, Nat.reduceMul, Nat.reduceBEq, Nat.reduceLT, Nat.reduceLeDiff, Nat.reduceEqDiff, Int.reduceToNat, Int.reduceLE, Int.reduceLT, Int.reduceAdd, Int.reduceSub, Int.reduceNeg, Int.reduceBEq, Int.reduceBNe, Nat.reduceBNe, Nat.reduceDiv, Nat.reduceMod, Go.undef, h2]) | fail)
    all_goals (have h64 : ((L.length : Int) = 64 ↔ L.length = 64) := by omega
               have h16 : (((upF L 70 x.parent).length : Int) ≥ 16 ↔ 16 ≤ (upF L 70 x.parent).length) := by omega
               have h17 : (((upF L 70 x.parent).length : Int) < 16 ↔ (upF L 70 x.parent).length < 16) := by omega
               simp_all)
  · obtain ⟨E, hE⟩ : ∃ E, E = addRE L x := ⟨_, rfl⟩
    rw [← hE]
    rw [addRE, h1, h2] at hE
    refine AFn_hxk 0 cx_ok 200 Try.func61 rfl Try.ntmps61 Try.results61 rfl fun base w hb => ?_
    simp only [go_sem, Nat.reduceAdd, Nat.reduceSub, Nat.reduceMul, Nat.reduceBEq, Nat.reduceLT, Nat.reduceLeDiff, Nat.reduceEqDiff, Int.reduceToNat, Int.reduceLE, Int.reduceLT, Int.reduceAdd, Int.reduceSub, Int.reduceNeg, Int.reduceBEq, Int.reduceBNe, Nat.reduceBNe, Nat.reduceDiv, Nat.reduceMod]
    repeat' (first | ((first | refine hite_dec (fun h => ?_) (fun h => ?_) | refine hite_beq (fun h => ?_) (fun h => ?_) | refine hite_bne (fun h => ?_) (fun h => ?_) | refine hite_intro (fun h => ?_) (fun h => ?_) | refine hite_decA (fun h => ?_) (fun h => ?_) | refine hite_beqA (fun h => ?_) (fun h => ?_) | refine hite_bneA (fun h => ?_) (fun h => ?_) | refine hite_intro' (fun h => ?_) (fun h => ?_)) <;> (try simp only [go_sem, Nat.reduceAdd, Nat.reduceSub, Nat.reduceMul, Nat.reduceBEq, Nat.reduceLT, Nat.reduceLeDiff, Nat.reduceEqDiff, Int.reduceToNat, Int.reduceLE, Int.reduceLT, Int.reduceAdd, Int.reduceSub, Int.reduceNeg, Int.reduceBEq, Int.reduceBNe, Nat.reduceBNe, Nat.reduceDiv, Nat.reduceMod, Go.undef, h2, hi])) | (refine And.intro (by first | assumption | omega) ?_; try simp only [go_sem, Nat.reduceAdd, Nat.reduceSub, Nat.reduceMul, Nat.reduceBEq, Nat.reduceLT, Nat.reduceLeDiff, Nat.reduceEqDiff, Int.reduceToNat, Int.reduceLE, Int.reduceLT, Int.reduceAdd, Int.reduceSub, Int.reduceNeg, Int.reduceBEq, Int.reduceBNe, Nat.reduceBNe, Nat.reduceDiv, Nat.reduceMod, Go.undef, h2, hi]) | (refine kont_call hb fn99 rfl ?_ (wrong_ok x hx) (Ret.flat rfl) rfl ?_; (· simp only [go_sem, Nat.reduceAdd, Nat.reduceSub, Nat.reduceMul, Nat.reduceBEq, Nat.reduceLT, Nat.reduceLeDiff, Nat.reduceEqDiff, Int.reduceToNat, Int.reduceLE, Int.reduceLT, Int.reduceAdd, Int.reduceSub, Int.reduceNeg, Int.reduceBEq, Int.reduceBNe, Nat.reduceBNe, Nat.reduceDiv, Nat.reduceMod, Go.undef, h2, hi]); intro d h hR; obtain ⟨rfl, rfl⟩ := hR; refine kont_of_hx cx_ok hb 200 ?_; simp only [go_sem, Nat.reduceAdd, Nat.reduceSub, Nat.reduceMul, Nat.reduceBEq, Nat.reduceLT, Nat.reduceLeDiff, Nat.reduceEqDiff, Int.reduceToNat, Int.reduceLE, Int.reduceLT, Int.reduceAdd, Int.reduceSub, Int.reduceNeg, Int.reduceBEq, Int.reduceBNe, Nat.reduceBNe, Nat.reduceDiv, Nat.reduceMod, Go.undef, h2, hi]) | (refine kont_call hb fn100 rfl ?_ (rfind_ok L x.iD hl) (Ret.flat rfl) rfl ?_; (· simp only [go_sem, Nat.reduceAdd, Nat.reduceSub, Nat.reduceMul, Nat.reduceBEq, Nat.reduceLT, Nat.reduceLeDiff, Nat.reduceEqDiff, Int.reduceToNat, Int.reduceLE, Int.reduceLT, Int.reduceAdd, Int.reduceSub, Int.reduceNeg, Int.reduceBEq, Int.reduceBNe, Nat.reduceBNe, Nat.reduceDiv, Nat.reduceMod, Go.undef, h2, hi]); intro d h hR; obtain ⟨rfl, rfl⟩ := hR; refine kont_of_hx cx_ok hb 200 ?_; simp only [go_sem, Nat.reduceAdd, Nat.reduceSub, Nat.reduceMul, Nat.reduceBEq, Nat.reduceLT, Nat.reduceLeDiff, Nat.reduceEqDiff, Int.reduceToNat, Int.reduceLE, Int.reduceLT, Int.reduceAdd, Int.reduceSub, Int.reduceNeg, Int.reduceBEq, Int.reduceBNe, Nat.reduceBNe, Nat.reduceDiv, Nat.reduceMod, Go.undef, h2, hi]) | (refine kont_call hb fn100 rfl ?_ (rfind_ok L x.parent hl) (Ret.flat rfl) rfl ?_; (· simp only [go_sem, Nat.reduceAdd, Nat.reduceSub, Nat.reduceMul, Nat.reduceBEq, Nat.reduceLT, Nat.reduceLeDiff, Nat.reduceEqDiff, Int.reduceToNat, Int.reduceLE, Int.reduceLT, Int.reduceAdd, Int.reduceSub, Int.reduceNeg, Int.reduceBEq, Int.reduceBNe, Nat.reduceBNe, Nat.reduceDiv, Nat.reduceMod, Go.undef, h2, hi]); intro d h hR; obtain ⟨rfl, rfl⟩ := hR; refine kont_of_hx cx_ok hb 200 ?_; simp only [go_sem, Nat.reduceAdd, Nat.reduceSub, Nat.reduceMul, Nat.reduceBEq, Nat.reduceLT, Nat.reduceLeDiff, Nat.reduceEqDiff, Int.reduceToNat, Int.reduceLE, Int.reduceLT, Int.reduceAdd, Int.reduceSub, Int.reduceNeg, Int.reduceBEq, Int.reduceBNe, Nat.reduceBNe, Nat.reduceDiv, Nat.reduceMod, Go.undef, h2, hi]) | (refine kont_call hb fn101 rfl ?_ (rofcI_ok x.ls hx.2.1.1 hx.2.1.2.1 hx.2.1.2.2) (Ret.flat rfl) rfl ?_; (· simp only [go_sem, Nat.reduceAdd, Nat.reduceSub, Nat.reduceMul, Nat.reduceBEq, Nat.reduceLT, Nat.reduceLeDiff, Nat.reduceEqDiff, Int.reduceToNat, Int.reduceLE, Int.reduceLT, Int.reduceAdd, Int.reduceSub, Int.reduceNeg, Int.reduceBEq, Int.reduceBNe, Nat.reduceBNe, Nat.reduceDiv, Nat.reduceMod, Go.undef, h2, hi]); intro d h hR; obtain ⟨rfl, rfl⟩ := hR; refine kont_of_hx cx_ok hb 200 ?_; simp only [go_sem, Nat.reduceAdd, Nat.reduceSub, Nat.reduceMul, Nat.reduceBEq, Nat.reduceLT, Nat.reduceLeDiff, Nat.reduceEqDiff, Int.reduceToNat, Int.reduceLE, Int.reduceLT, Int.reduceAdd, Int.reduceSub, Int.reduceNeg, Int.reduceBEq, Int.reduceBNe, Nat.reduceBNe, Nat.reduceDiv, Nat.reduceMod, Go.undef, h2, hi]) | (refine kont_call hb fn102 rfl ?_ (rshares_ok L x.parent hl hn) (Ret.flat rfl) rfl ?_; (· simp only [go_sem, Nat.reduceAdd, Nat.reduceSub, Nat.reduceMul, Nat.reduceBEq, Nat.reduceLT, Nat.reduceLeDiff, Nat.reduceEqDiff, Int.reduceToNat, Int.reduceLE, Int.reduceLT, Int.reduceAdd, Int.reduceSub, Int.reduceNeg, Int.reduceBEq, Int.reduceBNe, Nat.reduceBNe, Nat.reduceDiv, Nat.reduceMod, Go.undef, h2, hi]); intro d h hR; obtain ⟨rfl, rfl⟩ := hR; refine kont_of_hx cx_ok hb 200 ?_; simp only [go_sem, Nat.reduceAdd, Nat.reduceSub, Nat.reduceMul, Nat.reduceBEq, Nat.reduceLT, Nat.reduceLeDiff, Nat.reduceEqDiff, Int.reduceToNat, Int.reduceLE, Int.reduceLT, Int.reduceAdd, Int.reduceSub, Int.reduceNeg, Int.reduceBEq, Int.reduceBNe, Nat.reduceBNe, Nat.reduceDiv, Nat.reduceMod, Go.undef, h2, hi]) | (refine kont_callM hb [] fn70 rfl ?_ (rupc_ok L x.parent hl) rfl ?_; (· simp only [go_sem, Nat.reduceAdd, Nat.reduceSub, Nat.reduceMul, Nat.reduceBEq, Nat.reduceLT, Nat.reduceLeDiff, Nat.reduceEqDiff, Int.reduceToNat, Int.reduceLE, Int.reduceLT, Int.reduceAdd, Int.reduceSub, Int.reduceNeg, Int.reduceBEq, Int.reduceBNe, Nat.reduceBNe, Nat.reduceDiv, Nat.reduceMod, Go.undef, h2, hi]); intro d h hR; obtain ⟨rfl, rfl⟩ := hR; (simp only [go_sem, Nat.reduceAdd, Nat.reduceSub, Nat.reduceMul, Nat.reduceBEq, Nat.reduceLT, Nat.reduceLeDiff, Nat.reduceEqDiff, Int.reduceToNat, Int.reduceLE, Int.reduceLT, Int.reduceAdd, Int.reduceSub, Int.reduceNeg, Int.reduceBEq, Int.reduceBNe, Nat.reduceBNe, Nat.reduceDiv, Nat.reduceMod, Go.undef, h2, hi]); refine kont_of_hx cx_ok hb 200 ?_; simp only [go_sem, Nat.reduceAdd, Nat.reduceSub, Nat.reduceMul, Nat.reduceBEq, Nat.reduceLT, Nat.reduceLeDiff, Nat.reduceEqDiff, Int.reduceToNat, Int.reduceLE, Int.reduceLT, Int.reduceAdd, Int.reduceSub, Int.reduceNeg, Int.reduceBEq, Int.reduceBNe, Nat.reduceBNe, Nat.reduceDiv, Nat.reduceMod, Go.undef, h2, hi]) | (refine kont_callM hb [] fn103 rfl ?_ (rputc_ok L x hl) rfl ?_; (· simp only [go_sem, Nat.reduceAdd, Nat.reduceSub, Nat.reduceMul, Nat.reduceBEq, Nat.reduceLT, Nat.reduceLeDiff, Nat.reduceEqDiff, Int.reduceToNat, Int.reduceLE, Int.reduceLT, Int.reduceAdd, Int.reduceSub, Int.reduceNeg, Int.reduceBEq, Int.reduceBNe, Nat.reduceBNe, Nat.reduceDiv, Nat.reduceMod, Go.undef, h2, hi]); intro d h hR; obtain ⟨rfl, rfl⟩ := hR; (simp only [go_sem, Nat.reduceAdd, Nat.reduceSub, Nat.reduceMul, Nat.reduceBEq, Nat.reduceLT, Nat.reduceLeDiff, Nat.reduceEqDiff, Int.reduceToNat, Int.reduceLE, Int.reduceLT, Int.reduceAdd, Int.reduceSub, Int.reduceNeg, Int.reduceBEq, Int.reduceBNe, Nat.reduceBNe, Nat.reduceDiv, Nat.reduceMod, Go.undef, h2, hi]); refine kont_of_hx cx_ok hb 200 ?_; simp only [go_sem, Nat.reduceAdd, Nat.reduceSub, Nat.reduceMul, Nat.reduceBEq, Nat.reduceLT, Nat.reduceLeDiff, Nat.reduceEqDiff, Int.reduceToNat, Int.reduceLE, Int.reduceLT, Int.reduceAdd, Int.reduceSub, Int.reduceNeg, Int.reduceBEq, Int.reduceBNe, Nat.reduceBNe, Nat.reduceDiv, Nat.reduceMod, Go.undef, h2, hi]) | fail)
    all_goals (have h64 : ((L.length : Int) = 64 ↔ L.length = 64) := by omega
               have h16 : (((upF L 70 x.parent).length : Int) ≥ 16 ↔ 16 ≤ (upF L 70 x.parent).length) := by omega
               have h17 : (((upF L 70 x.parent).length : Int) < 16 ↔ (upF L 70 x.parent).length < 16) := by omega
               simp_all)
end Go.Fg.X
namespace Go.Fg.X
open Go.Proofs Go.Fg
set_option maxRecDepth 100000
set_option maxHeartbeats 4000000
set_option linter.unusedSimpArgs false
set_option linter.unusedVariables false
def delRE (L : List Kls) (id : Int) : Int := if findI L id < 0 then 6 else if childC L id ≠ [] then 23 else 0
theorem takeF_succ {α : Type} [Inhabited α] (L : List α) (g : α → Bool) (i : Nat) (h : i < L.length) : (L.take (i + 1)).filter g = if g (L.getD i default) = true then (L.take i).filter g ++ [L.getD i default] else (L.take i).filter g := by
  rw [List.take_add_one, List.getElem?_eq_getElem h]
  simp only [Option.toList_some, List.filter_append, List.getD_eq_getElem?_getD, List.getElem?_eq_getElem h, Option.getD_some]
  by_cases hg : g L[i] = true
  · rw [if_pos hg, List.filter_cons_of_pos hg]; rfl
  · rw [if_neg hg, List.filter_cons_of_neg hg]; simp
theorem takeF_len {α : Type} (L : List α) (g : α → Bool) (i : Nat) : ((L.take i).filter g).length ≤ i := by
  have := List.length_filter_le g (L.take i)
  simp at this; omega
theorem rdel_ok (L : List Kls) (id : Int) (hl : L.length < 1000000) : AFn Try.prog 62 [kls L, dint id] (Ret (.agg [kls (if delRE L id = 0 then delC L id else L), dint (delRE L id)])) := by
  by_cases h1 : findI L id < 0
  · have e : delRE L id = 6 := by rw [delRE, if_pos h1]
    rw [e]
    refine AFn_hxk 0 cx_ok 200 Try.func62 rfl Try.ntmps62 Try.results62 rfl fun base w hb => ?_
    simp only [go_sem, Nat.reduceAdd, Nat.reduceSub, Nat.reduceMul, Nat.reduceBEq, Nat.reduceLT, Nat.reduceLeDiff, Nat.reduceEqDiff, Int.reduceToNat, Int.reduceLE, Int.reduceLT, Int.reduceAdd, Int.reduceSub, Int.reduceNeg, Int.reduceBEq, Int.reduceBNe, Nat.reduceBNe, Nat.reduceDiv, Nat.reduceMod]
    refine kont_call hb fn100 rfl ?_ (rfind_ok L id hl) (Ret.flat rfl) rfl fun d h hR => ?_
    · simp only [go_sem, Nat.reduceAdd, Nat.reduceSub, Nat.reduceMul, Nat.reduceBEq, Nat.reduceLT, Nat.reduceLeDiff, Nat.reduceEqDiff, Int.reduceToNat, Int.reduceLE, Int.reduceLT, Int.reduceAdd, Int.reduceSub, Int.reduceNeg, Int.reduceBEq, Int.reduceBNe, Nat.reduceBNe, Nat.reduceDiv, Nat.reduceMod, decide_eq_true h1]
    obtain ⟨rfl, rfl⟩ := hR
    refine kont_of_hx cx_ok hb 200 ?_
    simp only [go_sem, Nat.reduceAdd, Nat.reduceSub, Nat.reduceMul, Nat.reduceBEq, Nat.reduceLT, Nat.reduceLeDiff, Nat.reduceEqDiff, Int.reduceToNat, Int.reduceLE, Int.reduceLT, Int.reduceAdd, Int.reduceSub, Int.reduceNeg, Int.reduceBEq, Int.reduceBNe, Nat.reduceBNe, Nat.reduceDiv, Nat.reduceMod, decide_eq_true h1]
    rfl
  · by_cases h2 : childC L id = []
    · have e : delRE L id = 0 := by rw [delRE, if_neg h1, if_neg (by simpa using h2)]
      rw [e]
      refine freezeSN (sz := 14) (enc := Kls.cells) (L := if (0 : Int) = 0 then delC L id else L) (v := .int .i64 0) (fun _ => rfl) ?_
      refine AFn_hxs [1] rfl cx_ok 200 Try.func62 rfl Try.ntmps62 Try.results62 rfl fun base w hb => ?_
      simp only [go_sem, Nat.reduceAdd, Nat.reduceSub, Nat.reduceMul, Nat.reduceBEq, Nat.reduceLT, Nat.reduceLeDiff, Nat.reduceEqDiff, Int.reduceToNat, Int.reduceLE, Int.reduceLT, Int.reduceAdd, Int.reduceSub, Int.reduceNeg, Int.reduceBEq, Int.reduceBNe, Nat.reduceBNe, Nat.reduceDiv, Nat.reduceMod]
      refine kont_call hb fn100 rfl ?_ (rfind_ok L id hl) (Ret.flat rfl) rfl fun d h hR => ?_
      · simp only [go_sem, Nat.reduceAdd, Nat.reduceSub, Nat.reduceMul, Nat.reduceBEq, Nat.reduceLT, Nat.reduceLeDiff, Nat.reduceEqDiff, Int.reduceToNat, Int.reduceLE, Int.reduceLT, Int.reduceAdd, Int.reduceSub, Int.reduceNeg, Int.reduceBEq, Int.reduceBNe, Nat.reduceBNe, Nat.reduceDiv, Nat.reduceMod, decide_eq_false h1]
      obtain ⟨rfl, rfl⟩ := hR
      refine kont_of_hx cx_ok hb 200 ?_
      simp only [go_sem, Nat.reduceAdd, Nat.reduceSub, Nat.reduceMul, Nat.reduceBEq, Nat.reduceLT, Nat.reduceLeDiff, Nat.reduceEqDiff, Int.reduceToNat, Int.reduceLE, Int.reduceLT, Int.reduceAdd, Int.reduceSub, Int.reduceNeg, Int.reduceBEq, Int.reduceBNe, Nat.reduceBNe, Nat.reduceDiv, Nat.reduceMod, decide_eq_false h1]
      refine kont_callM hb [] fn104 rfl ?_ (rchildrenc_ok L id hl) rfl fun d h hR => ?_
      · simp only [go_sem, Nat.reduceAdd, Nat.reduceSub, Nat.reduceMul, Nat.reduceBEq, Nat.reduceLT, Nat.reduceLeDiff, Nat.reduceEqDiff, Int.reduceToNat, Int.reduceLE, Int.reduceLT, Int.reduceAdd, Int.reduceSub, Int.reduceNeg, Int.reduceBEq, Int.reduceBNe, Nat.reduceBNe, Nat.reduceDiv, Nat.reduceMod, h2]
      obtain ⟨rfl, rfl⟩ := hR
      simp only [go_sem, Nat.reduceAdd, Nat.reduceSub, Nat.reduceMul, Nat.reduceBEq, Nat.reduceLT, Nat.reduceLeDiff, Nat.reduceEqDiff, Int.reduceToNat, Int.reduceLE, Int.reduceLT, Int.reduceAdd, Int.reduceSub, Int.reduceNeg, Int.reduceBEq, Int.reduceBNe, Nat.reduceBNe, Nat.reduceDiv, Nat.reduceMod, h2]
      refine kont_of_hx cx_ok hb 200 ?_
      simp only [go_sem, Nat.reduceAdd, Nat.reduceSub, Nat.reduceMul, Nat.reduceBEq, Nat.reduceLT, Nat.reduceLeDiff, Nat.reduceEqDiff, Int.reduceToNat, Int.reduceLE, Int.reduceLT, Int.reduceAdd, Int.reduceSub, Int.reduceNeg, Int.reduceBEq, Int.reduceBNe, Nat.reduceBNe, Nat.reduceDiv, Nat.reduceMod, h2]
      obtain ⟨g, hg⟩ : ∃ g : Kls → Bool, g = fun c => c.iD != id := ⟨_, rfl⟩
      have hdel : delC L id = (L.take L.length).filter g := by rw [List.take_length, hg]; rfl
      rw [if_pos trivial, hdel]
      refine kont_for (fun i s => ∃ gn off row, RowsAt Kls.cells ((L.take i).filter g) off row ∧ s = ⟨[(1, dint id), (4, .ptr 0 0 0 0), (5, .ref 1 gn off ((L.take i).filter g).length), (21, kls L), (22, dint L.length), (23, dint i)], [⟨.one, 0, 2, 1, fun _ => [.nil, dint 0]⟩, ⟨.arr, gn, 14, off + ((L.take i).filter g).length, row⟩]⟩) L.length
        (s0 := ⟨[(1, dint id), (4, .ptr 0 0 0 0), (5, .ref 1 0 0 0), (21, kls L), (22, dint L.length), (23, dint 0)], [⟨.one, 0, 2, 1, fun _ => [.nil, dint 0]⟩, ⟨.arr, 0, 14, 0, fun _ => []⟩]⟩)
        (Weak.trans (Weak.phantom 5 14 (fun i => []) rfl) (Weak.to 2 (by (simp only [go_sem, Nat.reduceAdd, Nat.reduceSub, Nat.reduceMul, Nat.reduceBEq, Nat.reduceLT, Nat.reduceLeDiff, Nat.reduceEqDiff, Int.reduceToNat, Int.reduceLE, Int.reduceLT, Int.reduceAdd, Int.reduceSub, Int.reduceNeg, Int.reduceBEq, Int.reduceBNe, Nat.reduceBNe, Nat.reduceDiv, Nat.reduceMod]) <;> simp))) ⟨0, 0, fun _ => [], .nil, rfl⟩ ?_
      rintro i s hi ⟨gn, off, row, hr, rfl⟩
      have hcl := takeF_len L g i
      have hwr := wrap_succ (show i < 4611686018427387904 by omega)
      refine kont_of_hx cx_ok hb 200 ?_
      simp only [go_sem, Nat.reduceAdd, Nat.reduceSub, Nat.reduceMul, Nat.reduceBEq, Nat.reduceLT, Nat.reduceLeDiff, Nat.reduceEqDiff, Int.reduceToNat, Int.reduceLE, Int.reduceLT, Int.reduceAdd, Int.reduceSub, Int.reduceNeg, Int.reduceBEq, Int.reduceBNe, Nat.reduceBNe, Nat.reduceDiv, Nat.reduceMod]
      first | refine hite_lt hi (fun hk1 => ?_) (fun hk1 => ?_) | refine hite_ltI hi (fun hk1 => ?_) (fun hk1 => ?_)
      · have hst := takeF_succ L g i hk1
        obtain ⟨M, hM⟩ : ∃ M, M = (L.take i).filter g := ⟨_, rfl⟩
        obtain ⟨c, he⟩ : ∃ e, e = L.getD i default := ⟨_, rfl⟩
        rw [← hM, ← he] at hst
        rw [← hM] at hr hcl ⊢
        simp only [go_sem, Nat.reduceAdd, Nat.reduceSub, Nat.reduceMul, Nat.reduceBEq, Nat.reduceLT, Nat.reduceLeDiff, Nat.reduceEqDiff, Int.reduceToNat, Int.reduceLE, Int.reduceLT, Int.reduceAdd, Int.reduceSub, Int.reduceNeg, Int.reduceBEq, Int.reduceBNe, Nat.reduceBNe, Nat.reduceDiv, Nat.reduceMod, hk1, ← he]
        by_cases hc : c.iD = id
        · rw [if_neg (by rw [hg]; simpa using hc)] at hst
          simp only [go_sem, Nat.reduceAdd, Nat.reduceSub, Nat.reduceMul, Nat.reduceBEq, Nat.reduceLT, Nat.reduceLeDiff, Nat.reduceEqDiff, Int.reduceToNat, Int.reduceLE, Int.reduceLT, Int.reduceAdd, Int.reduceSub, Int.reduceNeg, Int.reduceBEq, Int.reduceBNe, Nat.reduceBNe, Nat.reduceDiv, Nat.reduceMod, beqT hc, bne]
          repeat (refine And.intro (by omega) ?_)
          refine ⟨_, Weak.to 2 ⟨?_, by simp only [go_sem, Nat.reduceAdd, Nat.reduceSub, Nat.reduceMul, Nat.reduceBEq, Nat.reduceLT, Nat.reduceLeDiff, Nat.reduceEqDiff, Int.reduceToNat, Int.reduceLE, Int.reduceLT, Int.reduceAdd, Int.reduceSub, Int.reduceNeg, Int.reduceBEq, Int.reduceBNe, Nat.reduceBNe, Nat.reduceDiv, Nat.reduceMod], ?_, ?_⟩, gn, off, _, by rw [hst]; exact hr, rfl⟩
          · simp only [go_sem, Nat.reduceAdd, Nat.reduceSub, Nat.reduceMul, Nat.reduceBEq, Nat.reduceLT, Nat.reduceLeDiff, Nat.reduceEqDiff, Int.reduceToNat, Int.reduceLE, Int.reduceLT, Int.reduceAdd, Int.reduceSub, Int.reduceNeg, Int.reduceBEq, Int.reduceBNe, Nat.reduceBNe, Nat.reduceDiv, Nat.reduceMod, hwr, hst, List.length_append, List.length_singleton]
          · exact ⟨fun j _ => rfl, fun j hj => (hr).upto (fun a => rfl) j (by have hj2 := hj; simp only [hst] at hj2; simpa using hj2), trivial⟩
          · simp only [go_sem, Nat.reduceAdd, Nat.reduceSub, Nat.reduceMul, Nat.reduceBEq, Nat.reduceLT, Nat.reduceLeDiff, Nat.reduceEqDiff, Int.reduceToNat, Int.reduceLE, Int.reduceLT, Int.reduceAdd, Int.reduceSub, Int.reduceNeg, Int.reduceBEq, Int.reduceBNe, Nat.reduceBNe, Nat.reduceDiv, Nat.reduceMod, hst, List.length_append, List.length_singleton]
        · rw [if_pos (by rw [hg]; simpa using hc)] at hst
          have hb4 : M.length ≤ 4294967295 := by omega
          have hr2 : RowsAt Kls.cells (M ++ [c]) 0 (appRow M.length off row fun _ => c.cells) := hr.app c rfl
          simp only [go_sem, Nat.reduceAdd, Nat.reduceSub, Nat.reduceMul, Nat.reduceBEq, Nat.reduceLT, Nat.reduceLeDiff, Nat.reduceEqDiff, Int.reduceToNat, Int.reduceLE, Int.reduceLT, Int.reduceAdd, Int.reduceSub, Int.reduceNeg, Int.reduceBEq, Int.reduceBNe, Nat.reduceBNe, Nat.reduceDiv, Nat.reduceMod, beqF hc, bne, hb4]
          repeat (refine And.intro (by omega) ?_)
          refine ⟨_, Weak.to 2 ⟨?_, by simp only [go_sem, Nat.reduceAdd, Nat.reduceSub, Nat.reduceMul, Nat.reduceBEq, Nat.reduceLT, Nat.reduceLeDiff, Nat.reduceEqDiff, Int.reduceToNat, Int.reduceLE, Int.reduceLT, Int.reduceAdd, Int.reduceSub, Int.reduceNeg, Int.reduceBEq, Int.reduceBNe, Nat.reduceBNe, Nat.reduceDiv, Nat.reduceMod], ?_, ?_⟩, (gn+1), 0, _, by rw [hst]; exact hr2, rfl⟩
          · simp only [go_sem, Nat.reduceAdd, Nat.reduceSub, Nat.reduceMul, Nat.reduceBEq, Nat.reduceLT, Nat.reduceLeDiff, Nat.reduceEqDiff, Int.reduceToNat, Int.reduceLE, Int.reduceLT, Int.reduceAdd, Int.reduceSub, Int.reduceNeg, Int.reduceBEq, Int.reduceBNe, Nat.reduceBNe, Nat.reduceDiv, Nat.reduceMod, hwr, hst, List.length_append, List.length_singleton]
          · exact ⟨fun j _ => rfl, fun j hj => (hr2).upto (fun a => rfl) j (by have hj2 := hj; simp only [hst] at hj2; simpa using hj2), trivial⟩
          · simp only [go_sem, Nat.reduceAdd, Nat.reduceSub, Nat.reduceMul, Nat.reduceBEq, Nat.reduceLT, Nat.reduceLeDiff, Nat.reduceEqDiff, Int.reduceToNat, Int.reduceLE, Int.reduceLT, Int.reduceAdd, Int.reduceSub, Int.reduceNeg, Int.reduceBEq, Int.reduceBNe, Nat.reduceBNe, Nat.reduceDiv, Nat.reduceMod, hst, List.length_append, List.length_singleton]
      · have h1 : i = L.length := by omega
        subst h1
        refine kont_of_hx cx_ok hb 200 ?_
        simp only [go_sem, Nat.reduceAdd, Nat.reduceSub, Nat.reduceMul, Nat.reduceBEq, Nat.reduceLT, Nat.reduceLeDiff, Nat.reduceEqDiff, Int.reduceToNat, Int.reduceLE, Int.reduceLT, Int.reduceAdd, Int.reduceSub, Int.reduceNeg, Int.reduceBEq, Int.reduceBNe, Nat.reduceBNe, Nat.reduceDiv, Nat.reduceMod]
        exact ⟨hr.among1, gn, off, _, rfl, rfl, hr.ren1⟩
    · have e : delRE L id = 23 := by rw [delRE, if_neg h1, if_pos h2]
      have hpos : (((childC L id).length : Int) > 0) := by have := List.length_pos_iff.2 h2; omega
      have hpos2 : 0 < (childC L id).length := List.length_pos_iff.2 h2
      rw [e]
      refine AFn_hxk 0 cx_ok 200 Try.func62 rfl Try.ntmps62 Try.results62 rfl fun base w hb => ?_
      simp only [go_sem, Nat.reduceAdd, Nat.reduceSub, Nat.reduceMul, Nat.reduceBEq, Nat.reduceLT, Nat.reduceLeDiff, Nat.reduceEqDiff, Int.reduceToNat, Int.reduceLE, Int.reduceLT, Int.reduceAdd, Int.reduceSub, Int.reduceNeg, Int.reduceBEq, Int.reduceBNe, Nat.reduceBNe, Nat.reduceDiv, Nat.reduceMod]
      refine kont_call hb fn100 rfl ?_ (rfind_ok L id hl) (Ret.flat rfl) rfl fun d h hR => ?_
      · simp only [go_sem, Nat.reduceAdd, Nat.reduceSub, Nat.reduceMul, Nat.reduceBEq, Nat.reduceLT, Nat.reduceLeDiff, Nat.reduceEqDiff, Int.reduceToNat, Int.reduceLE, Int.reduceLT, Int.reduceAdd, Int.reduceSub, Int.reduceNeg, Int.reduceBEq, Int.reduceBNe, Nat.reduceBNe, Nat.reduceDiv, Nat.reduceMod, decide_eq_false h1]
      obtain ⟨rfl, rfl⟩ := hR
      refine kont_of_hx cx_ok hb 200 ?_
      simp only [go_sem, Nat.reduceAdd, Nat.reduceSub, Nat.reduceMul, Nat.reduceBEq, Nat.reduceLT, Nat.reduceLeDiff, Nat.reduceEqDiff, Int.reduceToNat, Int.reduceLE, Int.reduceLT, Int.reduceAdd, Int.reduceSub, Int.reduceNeg, Int.reduceBEq, Int.reduceBNe, Nat.reduceBNe, Nat.reduceDiv, Nat.reduceMod, decide_eq_false h1]
      refine kont_callM hb [] fn104 rfl ?_ (rchildrenc_ok L id hl) rfl fun d h hR => ?_
      · simp only [go_sem, Nat.reduceAdd, Nat.reduceSub, Nat.reduceMul, Nat.reduceBEq, Nat.reduceLT, Nat.reduceLeDiff, Nat.reduceEqDiff, Int.reduceToNat, Int.reduceLE, Int.reduceLT, Int.reduceAdd, Int.reduceSub, Int.reduceNeg, Int.reduceBEq, Int.reduceBNe, Nat.reduceBNe, Nat.reduceDiv, Nat.reduceMod, decide_eq_true hpos, decide_eq_true hpos2, hpos2]
      obtain ⟨rfl, rfl⟩ := hR
      simp only [go_sem, Nat.reduceAdd, Nat.reduceSub, Nat.reduceMul, Nat.reduceBEq, Nat.reduceLT, Nat.reduceLeDiff, Nat.reduceEqDiff, Int.reduceToNat, Int.reduceLE, Int.reduceLT, Int.reduceAdd, Int.reduceSub, Int.reduceNeg, Int.reduceBEq, Int.reduceBNe, Nat.reduceBNe, Nat.reduceDiv, Nat.reduceMod, decide_eq_true hpos, decide_eq_true hpos2, hpos2]
      refine kont_of_hx cx_ok hb 200 ?_
      simp only [go_sem, Nat.reduceAdd, Nat.reduceSub, Nat.reduceMul, Nat.reduceBEq, Nat.reduceLT, Nat.reduceLeDiff, Nat.reduceEqDiff, Int.reduceToNat, Int.reduceLE, Int.reduceLT, Int.reduceAdd, Int.reduceSub, Int.reduceNeg, Int.reduceBEq, Int.reduceBNe, Nat.reduceBNe, Nat.reduceDiv, Nat.reduceMod, decide_eq_true hpos, decide_eq_true hpos2, hpos2]
      rfl
end Go.Fg.X
namespace Go.Fg.X
open Go.Proofs Go.Fg
set_option maxRecDepth 100000
set_option maxHeartbeats 4000000
set_option linter.unusedSimpArgs false
set_option linter.unusedVariables false
/-- What comes of a class that is to be put in the place of another one. -/
def setRE (L : List Kls) (x : Kls) : Int :=
  if wrongV x ≠ 0 then wrongV x else if findI L x.iD < 0 then 6
  else if ¬ (((findC L x.iD).getD default).parent = x.parent ∧ ((findC L x.iD).getD default).leaf = x.leaf) then 1
  else if 1 < ofI x.ls ∧ sharesC L x.parent = false then 29
  else if ¬ 1 < ofI x.ls ∧ ((childC L x.iD).any fun id => sharesC L id) = true then 29 else 0
theorem any_take (l : List Int) (p : Int → Bool) : ∀ i, i ≤ l.length → ((∀ k, k < i → p (l.getD k 0) = false) ↔ (l.take i).any p = false)
  | 0, _ => by simp
  | i + 1, h => by
    have ih := any_take l p i (by omega)
    have hi : i < l.length := by omega
    rw [List.take_add_one, List.getElem?_eq_getElem hi, List.any_append, Bool.or_eq_false_iff, ← ih]
    simp only [Option.toList_some, List.any_cons, List.any_nil, Bool.or_false]
    constructor
    · intro h1
      refine ⟨fun k hk => h1 k (by omega), ?_⟩
      have := h1 i (by omega)
      simpa [List.getD_eq_getElem?_getD, hi] using this
    · rintro ⟨h1, h2⟩ k hk
      rcases Nat.lt_or_ge k i with h3 | h3
      · exact h1 k h3
      · have : k = i := by omega
        subst this
        simpa [List.getD_eq_getElem?_getD, hi] using h2
theorem rset_ok (L : List Kls) (x : Kls) (hl : L.length < 1000000) (hn : ∀ c ∈ L, c.Nn) (hx : x.Nn) : AFn Try.prog 63 [kls L, dkl x] (Ret (.agg [kls (if setRE L x = 0 then putOut L x else L), dint (setRE L x)])) := by
  obtain ⟨E, hE⟩ : ∃ E, E = setRE L x := ⟨_, rfl⟩
  rw [← hE]
  obtain ⟨Cs, hCs⟩ : ∃ Cs, Cs = childC L x.iD := ⟨_, rfl⟩
  have hcl : Cs.length ≤ L.length := by rw [hCs, childC]; simp; exact List.length_filter_le _ _
  rw [setRE, ← hCs] at hE
  rcases findI_cases L x.iD with ⟨h1, h2⟩ | ⟨i, hi, h2, h1⟩
  · rw [h2] at hE
    refine AFn_hxk 0 cx_ok 200 Try.func63 rfl Try.ntmps63 Try.results63 rfl fun base w hb => ?_
    simp only [go_sem, Nat.reduceAdd, Nat.reduceSub, Nat.reduceMul, Nat.reduceBEq, Nat.reduceLT, Nat.reduceLeDiff, Nat.reduceEqDiff, Int.reduceToNat, Int.reduceLE, Int.reduceLT, Int.reduceAdd, Int.reduceSub, Int.reduceNeg, Int.reduceBEq, Int.reduceBNe, Nat.reduceBNe, Nat.reduceDiv, Nat.reduceMod]
    repeat' (first | ((first | refine hite_dec (fun h => ?_) (fun h => ?_) | refine hite_beq (fun h => ?_) (fun h => ?_) | refine hite_bne (fun h => ?_) (fun h => ?_) | refine hite_intro (fun h => ?_) (fun h => ?_) | refine hite_decA (fun h => ?_) (fun h => ?_) | refine hite_beqA (fun h => ?_) (fun h => ?_) | refine hite_bneA (fun h => ?_) (fun h => ?_) | refine hite_intro' (fun h => ?_) (fun h => ?_)) <;> (try simp only [go_sem, Nat.reduceAdd, Nat.reduceSub, Nat.reduceMul, Nat.reduceBEq, Nat.reduceLT, Nat.reduceLeDiff, Nat.reduceEqDiff, Int.reduceToNat, Int.reduceLE, Int.reduceLT, Int.reduceAdd, Int.reduceSub, Int.reduceNeg, Int.reduceBEq, Int.reduceBNe, Nat.reduceBNe, Nat.reduceDiv, Nat.reduceMod, Go.undef, h2])) | (refine And.intro (by first | assumption | omega) ?_; try simp only [go_sem, Nat.reduceAdd, Nat.reduceSub, Nat.reduceMul, Nat.reduceBEq, Nat.reduceLT, Nat.reduceLeDiff, Nat.reduceEqDiff, Int.reduceToNat, Int.reduceLE, Int.reduceLT, Int.reduceAdd, Int.reduceSub, Int.reduceNeg, Int.reduceBEq, Int.reduceBNe, Nat.reduceBNe, Nat.reduceDiv, Nat.reduceMod, Go.undef, h2]) | (refine kont_call hb fn99 rfl ?_ (wrong_ok x hx) (Ret.flat rfl) rfl ?_; (· simp only [go_sem, Nat.reduceAdd, Nat.reduceSub, Nat.reduceMul, Nat.reduceBEq, Nat.reduceLT, Nat.reduceLeDiff, Nat.reduceEqDiff, Int.reduceToNat, Int.reduceLE, Int.reduceLT, Int.reduceAdd, Int.reduceSub, Int.reduceNeg, Int.reduceBEq, Int.reduceBNe, Nat.reduceBNe, Nat.reduceDiv, Nat.reduceMod, Go.undef, h2]); intro d h hR; obtain ⟨rfl, rfl⟩ := hR; refine kont_of_hx cx_ok hb 200 ?_; simp only [go_sem, Nat.reduceAdd, Nat.reduceSub, Nat.reduceMul, Nat.reduceBEq, Nat.reduceLT, Nat.reduceLeDiff, Nat.reduceEqDiff, Int.reduceToNat, Int.reduceLE, Int.reduceLT, Int.reduceAdd, Int.reduceSub, Int.reduceNeg, Int.reduceBEq, Int.reduceBNe, Nat.reduceBNe, Nat.reduceDiv, Nat.reduceMod, Go.undef, h2]) | (refine kont_call hb fn100 rfl ?_ (rfind_ok L x.iD hl) (Ret.flat rfl) rfl ?_; (· simp only [go_sem, Nat.reduceAdd, Nat.reduceSub, Nat.reduceMul, Nat.reduceBEq, Nat.reduceLT, Nat.reduceLeDiff, Nat.reduceEqDiff, Int.reduceToNat, Int.reduceLE, Int.reduceLT, Int.reduceAdd, Int.reduceSub, Int.reduceNeg, Int.reduceBEq, Int.reduceBNe, Nat.reduceBNe, Nat.reduceDiv, Nat.reduceMod, Go.undef, h2]); intro d h hR; obtain ⟨rfl, rfl⟩ := hR; refine kont_of_hx cx_ok hb 200 ?_; simp only [go_sem, Nat.reduceAdd, Nat.reduceSub, Nat.reduceMul, Nat.reduceBEq, Nat.reduceLT, Nat.reduceLeDiff, Nat.reduceEqDiff, Int.reduceToNat, Int.reduceLE, Int.reduceLT, Int.reduceAdd, Int.reduceSub, Int.reduceNeg, Int.reduceBEq, Int.reduceBNe, Nat.reduceBNe, Nat.reduceDiv, Nat.reduceMod, Go.undef, h2]) | fail)
    all_goals simp_all
  · rw [h2, h1] at hE
    obtain ⟨was, hwas⟩ : ∃ was, was = L.getD i default := ⟨_, rfl⟩
    rw [← hwas, Option.getD_some] at hE
    have hany : ∀ j, j < Cs.length → sharesC L (Cs.getD j 0) = true → (Cs.any fun id => sharesC L id) = true := fun j hj hs => List.any_eq_true.2 ⟨Cs.getD j 0, by rw [List.getD_eq_getElem?_getD, List.getElem?_eq_getElem hj]; exact List.getElem_mem hj, hs⟩
    have hfin : (∀ k, k < Cs.length → (!decide (1 < ofI x.ls) && sharesC L (Cs.getD k 0)) = false) → ¬ (¬ 1 < ofI x.ls ∧ (Cs.any fun id => sharesC L id) = true) := by
      rintro h ⟨h3, h4⟩
      have h5 := (any_take Cs (fun id => sharesC L id) Cs.length (Nat.le_refl _)).1 fun k hk => by
        have := h k hk
        rw [decide_eq_false h3] at this
        simpa using this
      rw [List.take_length, h4] at h5; cases h5
    refine AFn_hxk 0 cx_ok 200 Try.func63 rfl Try.ntmps63 Try.results63 rfl fun base w hb => ?_
    simp only [go_sem, Nat.reduceAdd, Nat.reduceSub, Nat.reduceMul, Nat.reduceBEq, Nat.reduceLT, Nat.reduceLeDiff, Nat.reduceEqDiff, Int.reduceToNat, Int.reduceLE, Int.reduceLT, Int.reduceAdd, Int.reduceSub, Int.reduceNeg, Int.reduceBEq, Int.reduceBNe, Nat.reduceBNe, Nat.reduceDiv, Nat.reduceMod]
    repeat' (first | ((first | refine hite_dec (fun h => ?_) (fun h => ?_) | refine hite_beq (fun h => ?_) (fun h => ?_) | refine hite_bne (fun h => ?_) (fun h => ?_) | refine hite_intro (fun h => ?_) (fun h => ?_) | refine hite_decA (fun h => ?_) (fun h => ?_) | refine hite_beqA (fun h => ?_) (fun h => ?_) | refine hite_bneA (fun h => ?_) (fun h => ?_) | refine hite_intro' (fun h => ?_) (fun h => ?_)) <;> (try simp only [go_sem, Nat.reduceAdd, Nat.reduceSub, Nat.reduceMul, Nat.reduceBEq, Nat.reduceLT, Nat.reduceLeDiff, Nat.reduceEqDiff, Int.reduceToNat, Int.reduceLE, Int.reduceLT, Int.reduceAdd, Int.reduceSub, Int.reduceNeg, Int.reduceBEq, Int.reduceBNe, Nat.reduceBNe, Nat.reduceDiv, Nat.reduceMod, Go.undef, h2, hi, ← hwas])) | (refine And.intro (by first | assumption | omega) ?_; try simp only [go_sem, Nat.reduceAdd, Nat.reduceSub, Nat.reduceMul, Nat.reduceBEq, Nat.reduceLT, Nat.reduceLeDiff, Nat.reduceEqDiff, Int.reduceToNat, Int.reduceLE, Int.reduceLT, Int.reduceAdd, Int.reduceSub, Int.reduceNeg, Int.reduceBEq, Int.reduceBNe, Nat.reduceBNe, Nat.reduceDiv, Nat.reduceMod, Go.undef, h2, hi, ← hwas]) | (refine kont_call hb fn99 rfl ?_ (wrong_ok x hx) (Ret.flat rfl) rfl ?_; (· simp only [go_sem, Nat.reduceAdd, Nat.reduceSub, Nat.reduceMul, Nat.reduceBEq, Nat.reduceLT, Nat.reduceLeDiff, Nat.reduceEqDiff, Int.reduceToNat, Int.reduceLE, Int.reduceLT, Int.reduceAdd, Int.reduceSub, Int.reduceNeg, Int.reduceBEq, Int.reduceBNe, Nat.reduceBNe, Nat.reduceDiv, Nat.reduceMod, Go.undef, h2, hi, ← hwas]); intro d h hR; obtain ⟨rfl, rfl⟩ := hR; refine kont_of_hx cx_ok hb 200 ?_; simp only [go_sem, Nat.reduceAdd, Nat.reduceSub, Nat.reduceMul, Nat.reduceBEq, Nat.reduceLT, Nat.reduceLeDiff, Nat.reduceEqDiff, Int.reduceToNat, Int.reduceLE, Int.reduceLT, Int.reduceAdd, Int.reduceSub, Int.reduceNeg, Int.reduceBEq, Int.reduceBNe, Nat.reduceBNe, Nat.reduceDiv, Nat.reduceMod, Go.undef, h2, hi, ← hwas]) | (refine kont_call hb fn100 rfl ?_ (rfind_ok L x.iD hl) (Ret.flat rfl) rfl ?_; (· simp only [go_sem, Nat.reduceAdd, Nat.reduceSub, Nat.reduceMul, Nat.reduceBEq, Nat.reduceLT, Nat.reduceLeDiff, Nat.reduceEqDiff, Int.reduceToNat, Int.reduceLE, Int.reduceLT, Int.reduceAdd, Int.reduceSub, Int.reduceNeg, Int.reduceBEq, Int.reduceBNe, Nat.reduceBNe, Nat.reduceDiv, Nat.reduceMod, Go.undef, h2, hi, ← hwas]); intro d h hR; obtain ⟨rfl, rfl⟩ := hR; refine kont_of_hx cx_ok hb 200 ?_; simp only [go_sem, Nat.reduceAdd, Nat.reduceSub, Nat.reduceMul, Nat.reduceBEq, Nat.reduceLT, Nat.reduceLeDiff, Nat.reduceEqDiff, Int.reduceToNat, Int.reduceLE, Int.reduceLT, Int.reduceAdd, Int.reduceSub, Int.reduceNeg, Int.reduceBEq, Int.reduceBNe, Nat.reduceBNe, Nat.reduceDiv, Nat.reduceMod, Go.undef, h2, hi, ← hwas]) | (refine kont_hax cx_ok hb 200 mixed [(0, true), (1, true), (2, true), (3, true), (4, true), (5, true), (6, true), (7, true), (8, true), (9, true), (10, true), (11, true), (12, true), (13, true), (14, true), (15, true), (16, true), (17, true)] ?_ ?_ ?_; (· kernel_rfl); (· kernel_rfl); simp only [go_sem, Nat.reduceAdd, Nat.reduceSub, Nat.reduceMul, Nat.reduceBEq, Nat.reduceLT, Nat.reduceLeDiff, Nat.reduceEqDiff, Int.reduceToNat, Int.reduceLE, Int.reduceLT, Int.reduceAdd, Int.reduceSub, Int.reduceNeg, Int.reduceBEq, Int.reduceBNe, Nat.reduceBNe, Nat.reduceDiv, Nat.reduceMod, Go.undef, h2, hi, ← hwas]) | (refine kont_call hb fn101 rfl ?_ (rofcI_ok x.ls hx.2.1.1 hx.2.1.2.1 hx.2.1.2.2) (Ret.flat rfl) rfl ?_; (· simp only [go_sem, Nat.reduceAdd, Nat.reduceSub, Nat.reduceMul, Nat.reduceBEq, Nat.reduceLT, Nat.reduceLeDiff, Nat.reduceEqDiff, Int.reduceToNat, Int.reduceLE, Int.reduceLT, Int.reduceAdd, Int.reduceSub, Int.reduceNeg, Int.reduceBEq, Int.reduceBNe, Nat.reduceBNe, Nat.reduceDiv, Nat.reduceMod, Go.undef, h2, hi, ← hwas]); intro d h hR; obtain ⟨rfl, rfl⟩ := hR; refine kont_of_hx cx_ok hb 200 ?_; simp only [go_sem, Nat.reduceAdd, Nat.reduceSub, Nat.reduceMul, Nat.reduceBEq, Nat.reduceLT, Nat.reduceLeDiff, Nat.reduceEqDiff, Int.reduceToNat, Int.reduceLE, Int.reduceLT, Int.reduceAdd, Int.reduceSub, Int.reduceNeg, Int.reduceBEq, Int.reduceBNe, Nat.reduceBNe, Nat.reduceDiv, Nat.reduceMod, Go.undef, h2, hi, ← hwas]) | (refine kont_call hb fn102 rfl ?_ (rshares_ok L x.parent hl hn) (Ret.flat rfl) rfl ?_; (· simp only [go_sem, Nat.reduceAdd, Nat.reduceSub, Nat.reduceMul, Nat.reduceBEq, Nat.reduceLT, Nat.reduceLeDiff, Nat.reduceEqDiff, Int.reduceToNat, Int.reduceLE, Int.reduceLT, Int.reduceAdd, Int.reduceSub, Int.reduceNeg, Int.reduceBEq, Int.reduceBNe, Nat.reduceBNe, Nat.reduceDiv, Nat.reduceMod, Go.undef, h2, hi, ← hwas]); intro d h hR; obtain ⟨rfl, rfl⟩ := hR; refine kont_of_hx cx_ok hb 200 ?_; simp only [go_sem, Nat.reduceAdd, Nat.reduceSub, Nat.reduceMul, Nat.reduceBEq, Nat.reduceLT, Nat.reduceLeDiff, Nat.reduceEqDiff, Int.reduceToNat, Int.reduceLE, Int.reduceLT, Int.reduceAdd, Int.reduceSub, Int.reduceNeg, Int.reduceBEq, Int.reduceBNe, Nat.reduceBNe, Nat.reduceDiv, Nat.reduceMod, Go.undef, h2, hi, ← hwas]) | (refine kont_callM hb [] fn104 rfl ?_ (hCs ▸ rchildrenc_ok L x.iD hl) rfl ?_; (· simp only [go_sem, Nat.reduceAdd, Nat.reduceSub, Nat.reduceMul, Nat.reduceBEq, Nat.reduceLT, Nat.reduceLeDiff, Nat.reduceEqDiff, Int.reduceToNat, Int.reduceLE, Int.reduceLT, Int.reduceAdd, Int.reduceSub, Int.reduceNeg, Int.reduceBEq, Int.reduceBNe, Nat.reduceBNe, Nat.reduceDiv, Nat.reduceMod, Go.undef, h2, hi, ← hwas]); intro d h hR; obtain ⟨rfl, rfl⟩ := hR; (simp only [go_sem, Nat.reduceAdd, Nat.reduceSub, Nat.reduceMul, Nat.reduceBEq, Nat.reduceLT, Nat.reduceLeDiff, Nat.reduceEqDiff, Int.reduceToNat, Int.reduceLE, Int.reduceLT, Int.reduceAdd, Int.reduceSub, Int.reduceNeg, Int.reduceBEq, Int.reduceBNe, Nat.reduceBNe, Nat.reduceDiv, Nat.reduceMod, Go.undef, h2, hi, ← hwas]); refine kont_of_hx cx_ok hb 200 ?_; simp only [go_sem, Nat.reduceAdd, Nat.reduceSub, Nat.reduceMul, Nat.reduceBEq, Nat.reduceLT, Nat.reduceLeDiff, Nat.reduceEqDiff, Int.reduceToNat, Int.reduceLE, Int.reduceLT, Int.reduceAdd, Int.reduceSub, Int.reduceNeg, Int.reduceBEq, Int.reduceBNe, Nat.reduceBNe, Nat.reduceDiv, Nat.reduceMod, Go.undef, h2, hi, ← hwas]) | fail)
    all_goals try (simp_all; done)
    all_goals
      refine kont_for (fun j s => (∀ k, k < j → (!decide (1 < ofI x.ls) && sharesC L (Cs.getD k 0)) = false) ∧ s = ⟨[(0, kls L), (3, .ptr 0 0 0 0), (4, .ptr 1 0 0 0), (7, dbool (decide (1 < ofI x.ls))), (62, ints Cs), (63, dint Cs.length), (64, dint j)], [⟨.one, 0, 14, 1, fun _ => x.cells⟩, ⟨.one, 0, 2, 1, fun _ => [.nil, dint 0]⟩]⟩) Cs.length (Weak.to 2 (by (simp only [go_sem, Nat.reduceAdd, Nat.reduceSub, Nat.reduceMul, Nat.reduceBEq, Nat.reduceLT, Nat.reduceLeDiff, Nat.reduceEqDiff, Int.reduceToNat, Int.reduceLE, Int.reduceLT, Int.reduceAdd, Int.reduceSub, Int.reduceNeg, Int.reduceBEq, Int.reduceBNe, Nat.reduceBNe, Nat.reduceDiv, Nat.reduceMod]) <;> simp)) ⟨fun k hk => by omega, rfl⟩ ?_
      rintro j s hj ⟨hno, rfl⟩
      have hwr := wrap_succ (show j < 4611686018427387904 by omega)
      refine kont_of_hx cx_ok hb 200 ?_
      simp only [go_sem, Nat.reduceAdd, Nat.reduceSub, Nat.reduceMul, Nat.reduceBEq, Nat.reduceLT, Nat.reduceLeDiff, Nat.reduceEqDiff, Int.reduceToNat, Int.reduceLE, Int.reduceLT, Int.reduceAdd, Int.reduceSub, Int.reduceNeg, Int.reduceBEq, Int.reduceBNe, Nat.reduceBNe, Nat.reduceDiv, Nat.reduceMod]
      first | refine hite_lt hj (fun hk1 => ?_) (fun hk1 => ?_) | refine hite_ltI hj (fun hk1 => ?_) (fun hk1 => ?_)
      · simp only [go_sem, Nat.reduceAdd, Nat.reduceSub, Nat.reduceMul, Nat.reduceBEq, Nat.reduceLT, Nat.reduceLeDiff, Nat.reduceEqDiff, Int.reduceToNat, Int.reduceLE, Int.reduceLT, Int.reduceAdd, Int.reduceSub, Int.reduceNeg, Int.reduceBEq, Int.reduceBNe, Nat.reduceBNe, Nat.reduceDiv, Nat.reduceMod, hk1]
        repeat' (first | ((first | refine hite_dec (fun h => ?_) (fun h => ?_) | refine hite_beq (fun h => ?_) (fun h => ?_) | refine hite_bne (fun h => ?_) (fun h => ?_) | refine hite_intro (fun h => ?_) (fun h => ?_) | refine hite_decA (fun h => ?_) (fun h => ?_) | refine hite_beqA (fun h => ?_) (fun h => ?_) | refine hite_bneA (fun h => ?_) (fun h => ?_) | refine hite_intro' (fun h => ?_) (fun h => ?_)) <;> (try simp only [go_sem, Nat.reduceAdd, Nat.reduceSub, Nat.reduceMul, Nat.reduceBEq, Nat.reduceLT, Nat.reduceLeDiff, Nat.reduceEqDiff, Int.reduceToNat, Int.reduceLE, Int.reduceLT, Int.reduceAdd, Int.reduceSub, Int.reduceNeg, Int.reduceBEq, Int.reduceBNe, Nat.reduceBNe, Nat.reduceDiv, Nat.reduceMod, Go.undef])) | (refine And.intro (by first | assumption | omega) ?_; try simp only [go_sem, Nat.reduceAdd, Nat.reduceSub, Nat.reduceMul, Nat.reduceBEq, Nat.reduceLT, Nat.reduceLeDiff, Nat.reduceEqDiff, Int.reduceToNat, Int.reduceLE, Int.reduceLT, Int.reduceAdd, Int.reduceSub, Int.reduceNeg, Int.reduceBEq, Int.reduceBNe, Nat.reduceBNe, Nat.reduceDiv, Nat.reduceMod, Go.undef]) | (refine kont_call hb fn102 rfl ?_ (rshares_ok L (Cs.getD j 0) hl hn) (Ret.flat rfl) rfl ?_; (· simp only [go_sem, Nat.reduceAdd, Nat.reduceSub, Nat.reduceMul, Nat.reduceBEq, Nat.reduceLT, Nat.reduceLeDiff, Nat.reduceEqDiff, Int.reduceToNat, Int.reduceLE, Int.reduceLT, Int.reduceAdd, Int.reduceSub, Int.reduceNeg, Int.reduceBEq, Int.reduceBNe, Nat.reduceBNe, Nat.reduceDiv, Nat.reduceMod, Go.undef]); intro d h hR; obtain ⟨rfl, rfl⟩ := hR; refine kont_of_hx cx_ok hb 200 ?_; simp only [go_sem, Nat.reduceAdd, Nat.reduceSub, Nat.reduceMul, Nat.reduceBEq, Nat.reduceLT, Nat.reduceLeDiff, Nat.reduceEqDiff, Int.reduceToNat, Int.reduceLE, Int.reduceLT, Int.reduceAdd, Int.reduceSub, Int.reduceNeg, Int.reduceBEq, Int.reduceBNe, Nat.reduceBNe, Nat.reduceDiv, Nat.reduceMod, Go.undef]) | fail)
        all_goals first
          | (refine ⟨_, Weak.to 2 (by (simp only [go_sem, Nat.reduceAdd, Nat.reduceSub, Nat.reduceMul, Nat.reduceBEq, Nat.reduceLT, Nat.reduceLeDiff, Nat.reduceEqDiff, Int.reduceToNat, Int.reduceLE, Int.reduceLT, Int.reduceAdd, Int.reduceSub, Int.reduceNeg, Int.reduceBEq, Int.reduceBNe, Nat.reduceBNe, Nat.reduceDiv, Nat.reduceMod, hwr]) <;> simp), fun k hk => ?_, rfl⟩; rcases Nat.lt_succ_iff_lt_or_eq.1 hk with h3 | rfl; (· exact hno k h3); (· simp_all; done))
          | (have h3 := hany j hk1; simp_all; done)
      · subst hk1
        have h3 := hfin hno
        have h4 : E = 0 := by simp_all
        clear hfin hno hany
        refine kont_of_hx cx_ok hb 200 ?_
        simp only [go_sem, Nat.reduceAdd, Nat.reduceSub, Nat.reduceMul, Nat.reduceBEq, Nat.reduceLT, Nat.reduceLeDiff, Nat.reduceEqDiff, Int.reduceToNat, Int.reduceLE, Int.reduceLT, Int.reduceAdd, Int.reduceSub, Int.reduceNeg, Int.reduceBEq, Int.reduceBNe, Nat.reduceBNe, Nat.reduceDiv, Nat.reduceMod]
        repeat' (first | ((first | refine hite_dec (fun h => ?_) (fun h => ?_) | refine hite_beq (fun h => ?_) (fun h => ?_) | refine hite_bne (fun h => ?_) (fun h => ?_) | refine hite_intro (fun h => ?_) (fun h => ?_) | refine hite_decA (fun h => ?_) (fun h => ?_) | refine hite_beqA (fun h => ?_) (fun h => ?_) | refine hite_bneA (fun h => ?_) (fun h => ?_) | refine hite_intro' (fun h => ?_) (fun h => ?_)) <;> (try simp only [go_sem, Nat.reduceAdd, Nat.reduceSub, Nat.reduceMul, Nat.reduceBEq, Nat.reduceLT, Nat.reduceLeDiff, Nat.reduceEqDiff, Int.reduceToNat, Int.reduceLE, Int.reduceLT, Int.reduceAdd, Int.reduceSub, Int.reduceNeg, Int.reduceBEq, Int.reduceBNe, Nat.reduceBNe, Nat.reduceDiv, Nat.reduceMod, Go.undef, h4])) | (refine And.intro (by first | assumption | omega) ?_; try simp only [go_sem, Nat.reduceAdd, Nat.reduceSub, Nat.reduceMul, Nat.reduceBEq, Nat.reduceLT, Nat.reduceLeDiff, Nat.reduceEqDiff, Int.reduceToNat, Int.reduceLE, Int.reduceLT, Int.reduceAdd, Int.reduceSub, Int.reduceNeg, Int.reduceBEq, Int.reduceBNe, Nat.reduceBNe, Nat.reduceDiv, Nat.reduceMod, Go.undef, h4]) | (refine kont_callM hb [] fn103 rfl ?_ (rputc_ok L x hl) rfl ?_; (· simp only [go_sem, Nat.reduceAdd, Nat.reduceSub, Nat.reduceMul, Nat.reduceBEq, Nat.reduceLT, Nat.reduceLeDiff, Nat.reduceEqDiff, Int.reduceToNat, Int.reduceLE, Int.reduceLT, Int.reduceAdd, Int.reduceSub, Int.reduceNeg, Int.reduceBEq, Int.reduceBNe, Nat.reduceBNe, Nat.reduceDiv, Nat.reduceMod, Go.undef, h4]); intro d h hR; obtain ⟨rfl, rfl⟩ := hR; (simp only [go_sem, Nat.reduceAdd, Nat.reduceSub, Nat.reduceMul, Nat.reduceBEq, Nat.reduceLT, Nat.reduceLeDiff, Nat.reduceEqDiff, Int.reduceToNat, Int.reduceLE, Int.reduceLT, Int.reduceAdd, Int.reduceSub, Int.reduceNeg, Int.reduceBEq, Int.reduceBNe, Nat.reduceBNe, Nat.reduceDiv, Nat.reduceMod, Go.undef, h4]); refine kont_of_hx cx_ok hb 200 ?_; simp only [go_sem, Nat.reduceAdd, Nat.reduceSub, Nat.reduceMul, Nat.reduceBEq, Nat.reduceLT, Nat.reduceLeDiff, Nat.reduceEqDiff, Int.reduceToNat, Int.reduceLE, Int.reduceLT, Int.reduceAdd, Int.reduceSub, Int.reduceNeg, Int.reduceBEq, Int.reduceBNe, Nat.reduceBNe, Nat.reduceDiv, Nat.reduceMod, Go.undef, h4]) | fail)
        all_goals (first | rfl | (simp_all; done))
end Go.Fg.X
namespace Go.Fg
set_option linter.unusedSimpArgs false
set_option linter.unusedVariables false
open Go.RowKit (Below)
def clearRow (off len : Nat) (zs : List D) (row : Nat → List D) : Nat → List D := fun k => bif Nat.ble off k && Nat.blt k (off + len) then zs else row k
theorem clearRow_lt {off len k : Nat} {zs : List D} {row : Nat → List D} (h : k < off) : clearRow off len zs row k = row k := by
  have : Nat.ble off k = false := by rw [← Bool.not_eq_true, Nat.ble_eq]; omega
  simp [clearRow, this]
section
variable {P : Program} {L : Lay} {base nt : Nat} {s : St} {o : Oper}
theorem clear_ok (hL : LayOk P L) {t e : TypeId} {x : Operand} {l g off len a b c : Nat} {z : Value} {zt : List Value} {ob : Ob} (ho : o.op = .call ⟨.builtin .clear, #[x], #[t]⟩) (hx : evalO s.fr x = .ref l g off len) (hob : s.h[l]? = some ob)
    (hk : ob.kd.isOne = false) (hg : ob.gen = g) (hs : ob.sz = 1) (hro : ob.kd.ro = false) (hn : off + len ≤ ob.n) (ht : ty L t = some ⟨.slice e, a, b, zt⟩) {k : TK} (he : ty L e = some ⟨k, 1, c, [z]⟩) (hz : oneV z = true) :
    EffOk P base nt o s (s.h.set l ⟨ob.kd, ob.gen, ob.sz, ob.n, clearRow off len [ofCell z] ob.row⟩) (.tup []) := by
  refine EffOk0.up ?_ (by simp [calm, ho])
  intro Z pl ac w r hbs
  have hv := r.eval x
  rw [hx] at hv
  obtain ⟨o', p', ad, cap, hvv, ho', hp', hk', hg', hat⟩ := inv_ref hv
  rw [hob] at ho'; cases ho'
  have hy := hL _ _ ht
  have hye := hL _ _ he
  have hu : P.underlying t = some (.slice e) := under_slice hy rfl
  obtain ⟨zv, hzz, hzr⟩ := hye.zeroValue
  have hzc : zv.cells = #[z] := by apply Array.toList_inj.1; rw [hzz]
  have hzl : (Builtin.zeroCells zv.cells len).toList = List.replicate len z := by
    rw [hzc]
    simp [Builtin.zeroCells]
    apply List.ext_getElem
    · simp
    · intro i h1 h2
      simp [Nat.mod_one]
  have hrz : ∀ Z' h' pl' w', RelV Z' h' pl' w' (ofCell z) z := fun Z' h' pl' w' =>
    .cl _ _ (cl_ofCell _ _ _)
  rcases hat hg.symm with ⟨hl0, hc0⟩ | ⟨bb, q, c0, el, hpp, haa, hb0, hsz0, hlc⟩
  · subst hl0
    have hrow : ∀ i, clearRow off 0 [ofCell z] ob.row i = ob.row i := fun i => by
      unfold clearRow
      cases h1 : Nat.ble off i && Nat.blt i (off + 0)
      · rfl
      · simp at h1; omega
    have hset : s.h.set l ⟨ob.kd, ob.gen, ob.sz, ob.n, clearRow off 0 [ofCell z] ob.row⟩ = s.h := by
      have e1 : (⟨ob.kd, ob.gen, ob.sz, ob.n, clearRow off 0 [ofCell z] ob.row⟩ : Ob) = ob := by rw [funext hrow]
      rw [e1]
      exact List.ext_getElem? fun i => by
        by_cases h : l = i
        · subst h; rw [List.getElem?_set_self (lt_of_some hob), hob]
        · rw [List.getElem?_set_ne h]
    rw [hset]
    refine ⟨.tuple #[], w, pl, .inl ?_, Tr.refl _ _ _, r.o, .tup [] [] rfl (fun i hi => absurd hi (Nat.not_lt_zero i)), Below.refl _ _⟩
    subst hc0
    cases ad <;> simp [execOp, ho, hvv, resolve, invoke, Go.builtin, Builtin.clear_, run_underlying hu]
  · subst hpp
    obtain ⟨hbase, xx⟩ := r.o.at_ l ob bb q hob hp'
    obtain ⟨c1, el1, hb, hcsz, hrl, hrow⟩ := xx.cells hk'
    rw [hb] at hb0; cases hb0
    have hkd : ∀ c2 : Nat → List D, (⟨ob.kd, ob.gen, ob.sz, ob.n, c2⟩ : Ob).kd = ob.kd := fun _ => rfl
    obtain ⟨w', c', g1, g2, g3, g4, g5, g6, g7, g8, g9⟩ := run_storeCells (P := P) bb el (List.replicate len z) 0 (q + off * ob.sz) w c0 hb (by simp; rw [hs] at hcsz ⊢; omega) (fun k hk => by
      have hk2 : k < len := by simpa using hk
      have : nthV (List.replicate len z) k = z := by simp [nthV, List.getD_eq_getElem?_getD, hk2]
      rw [this]; exact hz)
    have T : Tr s.h pl w (s.h.set l ⟨ob.kd, ob.gen, ob.sz, ob.n, clearRow off len [ofCell z] ob.row⟩) pl w' := Tr.upd r.o hob hp' rfl rfl rfl (fun k hk _ => g5 k hk) (fun c2 el2 e2 => by rw [hb] at e2; cases e2; exact ⟨c', g2, g3⟩)
    refine ⟨.tuple #[], w', pl, .inl ?_, T, ?_, .tup [] [] rfl (fun i hi => absurd hi (Nat.not_lt_zero i)), below_of (hbase hro) g5 g6 g7 g8 g9⟩
    · subst haa
      by_cases hl0 : len = 0
      · subst hl0
        have e1 : w' = w := by
          have : (storeCells ⟨bb, q + off * ob.sz, none⟩ (List.replicate 0 z) 0).run P w = .ok () w := by simp [storeCells]
          rw [g1] at this; cases this; rfl
        rw [e1]
        simp [execOp, ho, hvv, resolve, invoke, Go.builtin, Builtin.clear_, run_underlying hu]
      · obtain ⟨m, rfl⟩ : ∃ m, len = m + 1 := ⟨len - 1, by omega⟩
        simp [execOp, ho, hvv, resolve, invoke, Go.builtin, Builtin.clear_, run_underlying hu, hzr, hzl, g1]
    · refine RelO.upd (hro := rfl) r.o hob hp' hk' hk' rfl rfl (fun k hk _ => g5 k hk) hb g2 g3 (by rw [g3]; exact hcsz) (fun k hk => ?_) (fun k m hk hm => ?_)
      · show (clearRow off len [ofCell z] ob.row k).length = ob.sz
        unfold clearRow
        cases Nat.ble off k && Nat.blt k (off + len)
        · exact hrl k hk
        · simp [hs]
      · have hk2 : k < ob.n := hk
        have hm2 : m < ob.sz := hm
        show ∃ v, c'[q + (k * ob.sz + m)]? = some v ∧ RelV Z _ pl w' (nth (clearRow off len [ofCell z] ob.row k) m) v
        rw [hs] at hm2
        have hm0 : m = 0 := by omega
        subst hm0
        have hidx : k * ob.sz + 0 = k := by rw [hs]; omega
        have hidx2 : q + off * ob.sz + 0 = q + off := by rw [hs]; omega
        rw [g4, hidx, hidx2]
        simp only [List.length_replicate]
        by_cases hin : off ≤ k ∧ k < off + len
        · rw [if_pos (by omega)]
          have e1 : clearRow off len [ofCell z] ob.row k = [ofCell z] := by simp [clearRow, nat_ble, nat_blt, hin.1, hin.2]
          rw [e1]
          exact ⟨z, by rw [List.getElem?_replicate, if_pos (by omega)], hrz _ _ _ _⟩
        · rw [if_neg (by omega)]
          have e1 : clearRow off len [ofCell z] ob.row k = ob.row k := by
            unfold clearRow
            cases h : (Nat.ble off k && Nat.blt k (off + len))
            · rfl
            · simp at h; omega
          rw [e1]
          obtain ⟨v, hv1, hr1⟩ := hrow k 0 hk2 (by omega)
          rw [hidx] at hv1
          exact ⟨v, hv1, hr1.tr T⟩
end
section
variable {P : Program} {L : Lay} {base nt : Nat} {w0 : Start} {Q : Exit → St → Prop}
/-- The rule. -/
theorem kont_clear (hL : LayOk P L) (hb : base ≤ w0.w.heap.size) {k : List Item} {dst : Option Nat} {tyd : TypeId} {pos : String} {after : Array Edge} {gd : Option (Nat × Bool)} {r : List (Oper × G)} {s : St} {t e : TypeId} {x : Operand} {l g off len a b c : Nat} {z : Value} {zt : List Value} {ob : Ob}
    (hx : evalO s.fr x = .ref l g off len) (hob : s.h[l]? = some ob)
    (hk : ob.kd.isOne = false) (hg : ob.gen = g) (hs : ob.sz = 1) (hro : ob.kd.ro = false) (hn : off + len ≤ ob.n) (ht : ty L t = some ⟨.slice e, a, b, zt⟩) {tk : TK} (he : ty L e = some ⟨tk, 1, c, [z]⟩) (hz : oneV z = true) (hd : okO nt dst = true)
    (h1 : kont P base nt w0 Q (.ops r :: k) .normal ⟨putO s.fr dst (.tup []), s.h.set l ⟨ob.kd, ob.gen, ob.sz, ob.n, clearRow off len [ofCell z] ob.row⟩⟩) :
    kont P base nt w0 Q (.ops ((⟨dst, .call ⟨.builtin .clear, #[x], #[t]⟩, tyd, pos, after, gd⟩, none) :: r) :: k) .normal s := by
  simp only [kont] at h1 ⊢
  exact AG_eff hb (clear_ok hL rfl hx hob hk hg hs hro hn ht he hz) hd h1
end
end Go.Fg
namespace Go.Fg
set_option linter.unusedSimpArgs false
set_option linter.unusedVariables false
open Go.RowKit (Below)
theorem MFn.cut {P : Program} {f : FuncId} {F : List Ob} {args : List D} {R R' : D → List Ob → Prop} (hf : MFn P f F args R)
    (hr : ∀ d h, R d h → ∃ l o n', h[l]? = some o ∧ o.kd.ty = 0 ∧ n' ≤ o.n ∧ R' d (h.set l ⟨o.kd, o.gen, o.sz, n', o.row⟩)) : MFn P f F args R' := by
  intro Z base w pl vs h1 h2 h3 hl hc
  refine (hf Z base w pl vs h1 h2 h3 hl hc).mono fun e w' he => ?_
  obtain ⟨v, d, h, pl', rfl, hR, hO, hV, hT, hB⟩ := he
  obtain ⟨l, o, n', ho, hk, hn, hR'⟩ := hr _ _ hR
  have hl := lt_of_some ho
  have key : ∀ (x : Nat) (u : Ob), h[x]? = some u → ∃ u', (h.set l ⟨o.kd, o.gen, o.sz, n', o.row⟩)[x]? = some u' ∧ u'.gen = u.gen ∧ u'.sz = u.sz ∧ u'.kd.ty = u.kd.ty := fun x u e => by
    by_cases hx : l = x
    · subst hx
      rw [ho] at e; cases e
      exact ⟨_, List.getElem?_set_self hl, rfl, rfl, rfl⟩
    · exact ⟨u, by rw [List.getElem?_set_ne hx]; exact e, rfl, rfl, rfl⟩
  refine ⟨v, d, _, pl', rfl, hR', ⟨by simp [hO.len], hO.inj, fun x u e ep => ?_, fun x u b q e ep => ?_⟩, hV.kds key, ⟨hT.old, fun x u p e ep => ?_, fun x u u' b q e e' hg ep c el hc => ?_⟩, hB⟩
  · by_cases hx : l = x
    · subst hx
      rw [List.getElem?_set_self hl] at e; cases e
      have := hO.noRow l o ho ep
      show n' = 0
      omega
    · rw [List.getElem?_set_ne hx] at e
      exact hO.noRow x u e ep
  · by_cases hx : l = x
    · subst hx
      rw [List.getElem?_set_self hl] at e; cases e
      obtain ⟨g1, xx⟩ := hO.at_ l o b q ho ep
      obtain ⟨c, el, c1, c2, c3, c4⟩ := xx.cells hk
      refine ⟨g1, .ofCells hk ⟨c, el, c1, ?_, fun i hi => c3 i (Nat.lt_of_lt_of_le hi hn), fun i j hi hj => ?_⟩⟩
      · have := Nat.mul_le_mul_right o.sz hn
        show q + n' * o.sz ≤ c.size
        omega
      · obtain ⟨u, hu, hr⟩ := c4 i j (Nat.lt_of_lt_of_le hi hn) hj
        exact ⟨u, hu, hr.kds key⟩
    · rw [List.getElem?_set_ne hx] at e
      obtain ⟨g1, xx⟩ := hO.at_ x u b q e ep
      exact ⟨g1, xx.to rfl rfl rfl rfl (fun _ _ => rfl) fun i j v _ _ hr => hr.kds key⟩
  · obtain ⟨u', p', a1, a2, a3, a4, a5⟩ := hT.obj x u p e ep
    obtain ⟨u2, b1, b2, b3, b4⟩ := key x u' a1
    exact ⟨u2, p', b1, a2, by omega, by rw [b4, a4], fun hh => by rw [b3]; exact a5 (by omega)⟩
  · obtain ⟨u1, p', a1, a2, a3, a4, a5⟩ := hT.obj x u _ e ep
    obtain ⟨u2, b1, b2, b3, b4⟩ := key x u1 a1
    rw [e'] at b1; cases b1
    exact hT.shape x u u1 b q e a1 (by omega) ep c el hc
end Go.Fg
namespace Go.Fg.X
open Go.Proofs Go.Fg
set_option maxRecDepth 100000
set_option maxHeartbeats 4000000
set_option linter.unusedSimpArgs false
set_option linter.unusedVariables false
/-- What a function value tells of a number, whatever is lent to it, and whatever object lo holds. -/
def TellsX (F : List Ob) (lo : Nat) (f nf : Nat) (caps : List D) (g : Int → Bool) : Prop := ∀ (h : List Ob) (n : Int), F.length ≤ h.length → (∀ l, l < F.length → l ≠ lo → h[l]? = F[l]?) → RFn0 Try.prog f h (argsD nf caps [dint n]) (fun d => d = dbool (g n))
def keepI (g : Int → Bool) (l : List Int) : List Int := l.filter fun x => !g x
theorem keep_first {g : Int → Bool} {l : List Int} : (firstI g l = -1 ∧ keepI g l = l) ∨ ∃ i, i < l.length ∧ firstI g l = (i : Int) ∧ g (l.getD i 0) = true ∧ (l.take (i + 1)).filter (fun x => !g x) = l.take i := by
  unfold firstI
  cases h : l.findIdx? g with
  | none =>
    refine .inl ⟨rfl, List.filter_eq_self.2 fun x hx => ?_⟩
    simp [List.findIdx?_eq_none_iff.1 h x hx]
  | some i =>
    obtain ⟨h1, h2, h3⟩ := List.findIdx?_eq_some_iff_getElem.1 h
    refine .inr ⟨i, h1, rfl, by simpa [List.getD_eq_getElem?_getD, h1] using h2, ?_⟩
    rw [takeF_succ l _ i h1, if_neg (by simpa [List.getD_eq_getElem?_getD, h1] using h2)]
    refine List.filter_eq_self.2 fun x hx => ?_
    obtain ⟨j, hj, rfl⟩ := List.getElem_of_mem hx
    simp at hj
    simpa using h3 j (by omega)
section
variable (h : List Ob) (l : List Int) (lo gn off : Nat) (row : Nat → List D) (hlen : l.length < 1000000) (ho : h[lo]? = some ⟨.arr, gn, 1, off + l.length, row⟩) (hr : ∀ i, i < l.length → row (off + i) = [dint (l.getD i 0)])
include hlen ho hr
theorem deleteFunc_ok (so : D) (f nf : Nat) (caps : List D) (hf : FnOk Try.prog f) (hso : calleeD so = some (f, nf, caps)) (gk : Int → Bool) (hg : TellsX h lo f nf caps gk) (hg2 : TellsX (h.map Ob.ro) lo f nf caps gk) :
    MFn Try.prog 64 h [.ref lo gn off l.length, so] (fun d h' => d = .ref lo gn off (keepI gk l).length ∧ ∃ row', h' = h.set lo ⟨.arr, gn, 1, off + l.length, row'⟩ ∧ ∀ i, i < (keepI gk l).length → row' (off + i) = [dint ((keepI gk l).getD i 0)]) := by
  refine MFn_hx cx_ok 200 Try.func64 rfl Try.ntmps64 Try.results64 rfl fun base w pl hb => ?_
  have ho_l := hlt ho
  simp only [go_sem, Nat.reduceAdd, Nat.reduceSub, Nat.reduceMul, Nat.reduceBEq, Nat.reduceLT, Nat.reduceLeDiff, Nat.reduceEqDiff, Int.reduceToNat, Int.reduceLE, Int.reduceLT, Int.reduceAdd, Int.reduceSub, Int.reduceNeg, Int.reduceBEq, Int.reduceBNe, Nat.reduceBNe, Nat.reduceDiv, Nat.reduceMod, hgetA, hgetL, hgetLk, hsetA, hsetL, hsetLk, List.length_append, List.length_set, List.append_assoc, List.set_set, ho, ho_l]
  refine kont_callR0 hb fn98 rfl ?_ (indexFunc_ok h l lo gn off row hlen (ro_get ho) hr so f nf caps hf hso gk (fun h' n hx => ?_)) rfl fun d2 hR => ?_
  · simp only [go_sem, Nat.reduceAdd, Nat.reduceSub, Nat.reduceMul, Nat.reduceBEq, Nat.reduceLT, Nat.reduceLeDiff, Nat.reduceEqDiff, Int.reduceToNat, Int.reduceLE, Int.reduceLT, Int.reduceAdd, Int.reduceSub, Int.reduceNeg, Int.reduceBEq, Int.reduceBNe, Nat.reduceBNe, Nat.reduceDiv, Nat.reduceMod]
    exact argEq_refl so
  · obtain ⟨g, rfl⟩ := hx
    exact hg2 _ n (by simp) fun l hl _ => hgetA hl
  subst hR
  have hset : h.set lo ⟨.arr, gn, 1, off + l.length, row⟩ = h := List.ext_getElem? fun i => by
    by_cases h1 : lo = i
    · subst h1; rw [List.getElem?_set_self ho_l, ho]
    · rw [List.getElem?_set_ne h1]
  rcases keep_first (g := gk) (l := l) with ⟨h1, h2⟩ | ⟨i, hi, h1, h2, h3⟩
  · rw [h1, h2]
    refine kont_of_hx cx_ok hb 200 ?_
    simp only [go_sem, Nat.reduceAdd, Nat.reduceSub, Nat.reduceMul, Nat.reduceBEq, Nat.reduceLT, Nat.reduceLeDiff, Nat.reduceEqDiff, Int.reduceToNat, Int.reduceLE, Int.reduceLT, Int.reduceAdd, Int.reduceSub, Int.reduceNeg, Int.reduceBEq, Int.reduceBNe, Nat.reduceBNe, Nat.reduceDiv, Nat.reduceMod, hgetA, hgetL, hgetLk, hsetA, hsetL, hsetLk, List.length_append, List.length_set, List.append_assoc, List.set_set, ho, ho_l]
    exact ⟨row, hset.symm, hr⟩
  · rw [h1]
    have hne : (((i : Nat) : Int) == -1) = false := by simp
    have hwr := wrap_succ (show i < 4611686018427387904 by omega)
    refine kont_of_hx cx_ok hb 200 ?_
    simp only [go_sem, Nat.reduceAdd, Nat.reduceSub, Nat.reduceMul, Nat.reduceBEq, Nat.reduceLT, Nat.reduceLeDiff, Nat.reduceEqDiff, Int.reduceToNat, Int.reduceLE, Int.reduceLT, Int.reduceAdd, Int.reduceSub, Int.reduceNeg, Int.reduceBEq, Int.reduceBNe, Nat.reduceBNe, Nat.reduceDiv, Nat.reduceMod, hgetA, hgetL, hgetLk, hsetA, hsetL, hsetLk, List.length_append, List.length_set, List.append_assoc, List.set_set, ho, ho_l, hne, hwr]
    refine kont_for (fun k s => ∃ r2 : Nat → List D, (∀ x, x < l.length → (r2 (off + x)).length = 1) ∧ (∀ j, j < ((l.take (i + 1 + k)).filter fun x => !gk x).length → r2 (off + j) = [dint (((l.take (i + 1 + k)).filter fun x => !gk x).getD j 0)]) ∧ (∀ j, i + 1 + k ≤ j → j < l.length → r2 (off + j) = [dint (l.getD j 0)]) ∧
      s = ⟨[(0, .ref lo gn off l.length), (1, so), (5, dint ((l.take (i + 1 + k)).filter fun x => !gk x).length), (6, dint (i + 1 + k : Nat))], h.set lo ⟨.arr, gn, 1, off + l.length, r2⟩⟩) (l.length - (i + 1))
      (s0 := ⟨[(0, .ref lo gn off l.length), (1, so), (5, dint i), (6, dint (i + 1 : Nat))], h⟩) (Weak.frame (by simp only [go_sem, Nat.reduceAdd, Nat.reduceSub, Nat.reduceMul, Nat.reduceBEq, Nat.reduceLT, Nat.reduceLeDiff, Nat.reduceEqDiff, Int.reduceToNat, Int.reduceLE, Int.reduceLT, Int.reduceAdd, Int.reduceSub, Int.reduceNeg, Int.reduceBEq, Int.reduceBNe, Nat.reduceBNe, Nat.reduceDiv, Nat.reduceMod])) ⟨row, fun x hx => by rw [hr x hx]; rfl, ?_, fun j _ hj => hr j hj, ?_⟩ ?_
    · rw [Nat.add_zero, h3]
      intro j hj
      simp at hj
      rw [hr j (by omega)]
      simp [List.getD_eq_getElem?_getD, hj, show j < l.length by omega]
    · rw [Nat.add_zero, h3, hset]
      simp [Nat.min_eq_left (Nat.le_of_lt hi)]
    rintro k s hk ⟨r2, hr1, hr2, hr3, rfl⟩
    have hlen2 := takeF_len l (fun x => !gk x) (i + 1 + k)
    obtain ⟨M, hM⟩ : ∃ M, M = (l.take (i + 1 + k)).filter fun x => !gk x := ⟨_, rfl⟩
    obtain ⟨j, hj⟩ : ∃ j, j = i + 1 + k := ⟨_, rfl⟩
    have hl1 : lo < (h.set lo ⟨.arr, gn, 1, off + l.length, r2⟩).length := by simpa using ho_l
    have hget : (h.set lo ⟨.arr, gn, 1, off + l.length, r2⟩)[lo]? = some ⟨.arr, gn, 1, off + l.length, r2⟩ := hgetS ho_l
    rw [← hj] at hM hr2 hr3 hlen2 ⊢
    rw [← hM] at hr2 hlen2 ⊢
    have hjl : j ≤ l.length := by omega
    have hwr := wrap_succ (show j < 4611686018427387904 by omega)
    have hwr2 := wrap_succ (show M.length < 4611686018427387904 by omega)
    have hagree : ∀ x, x < h.length → x ≠ lo → (h.set lo ⟨.arr, gn, 1, off + l.length, r2⟩)[x]? = h[x]? := fun x _ hx => hgetN (Ne.symm hx)
    refine kont_of_hx cx_ok hb 200 ?_
    simp only [go_sem, Nat.reduceAdd, Nat.reduceSub, Nat.reduceMul, Nat.reduceBEq, Nat.reduceLT, Nat.reduceLeDiff, Nat.reduceEqDiff, Int.reduceToNat, Int.reduceLE, Int.reduceLT, Int.reduceAdd, Int.reduceSub, Int.reduceNeg, Int.reduceBEq, Int.reduceBNe, Nat.reduceBNe, Nat.reduceDiv, Nat.reduceMod, hgetA, hgetL, hgetLk, hsetA, hsetL, hsetLk, List.length_append, List.length_set, List.append_assoc, List.set_set, hget, hl1]
    first | refine hite_lt hjl (fun hk1 => ?_) (fun hk1 => ?_) | refine hite_ltI hjl (fun hk1 => ?_) (fun hk1 => ?_)
    · have hrj := hr3 j (Nat.le_refl _) hk1
      have hb1 : off + j < off + l.length := by omega
      simp only [go_sem, Nat.reduceAdd, Nat.reduceSub, Nat.reduceMul, Nat.reduceBEq, Nat.reduceLT, Nat.reduceLeDiff, Nat.reduceEqDiff, Int.reduceToNat, Int.reduceLE, Int.reduceLT, Int.reduceAdd, Int.reduceSub, Int.reduceNeg, Int.reduceBEq, Int.reduceBNe, Nat.reduceBNe, Nat.reduceDiv, Nat.reduceMod, hgetA, hgetL, hgetLk, hsetA, hsetL, hsetLk, List.length_append, List.length_set, List.append_assoc, List.set_set, hk1, hget, hl1, hrj, hb1]
      refine kont_callR0 hb hf hso ?_ (hg _ (l.getD j 0) (by simp) hagree) rfl fun d2 hR => ?_
      · simp only [go_sem, Nat.reduceAdd, Nat.reduceSub, Nat.reduceMul, Nat.reduceBEq, Nat.reduceLT, Nat.reduceLeDiff, Nat.reduceEqDiff, Int.reduceToNat, Int.reduceLE, Int.reduceLT, Int.reduceAdd, Int.reduceSub, Int.reduceNeg, Int.reduceBEq, Int.reduceBNe, Nat.reduceBNe, Nat.reduceDiv, Nat.reduceMod]
        exact argsEq_refl _
      subst hR
      have hst := takeF_succ l (fun x => !gk x) j hk1
      rw [← hM, show l.getD j default = l.getD j 0 from rfl] at hst
      cases hgk : gk (l.getD j 0)
      · rw [if_pos (by simp only [hgk, Bool.not_false])] at hst
        have hb2 : M.length < l.length := by omega
        have hb3 : off + M.length < off + l.length := by omega
        have hdrop : List.drop 1 (r2 (off + M.length)) = [] := List.drop_eq_nil_of_le (by rw [hr1 _ hb2]; exact Nat.le_refl _)
        refine kont_of_hx cx_ok hb 200 ?_
        simp only [go_sem, Nat.reduceAdd, Nat.reduceSub, Nat.reduceMul, Nat.reduceBEq, Nat.reduceLT, Nat.reduceLeDiff, Nat.reduceEqDiff, Int.reduceToNat, Int.reduceLE, Int.reduceLT, Int.reduceAdd, Int.reduceSub, Int.reduceNeg, Int.reduceBEq, Int.reduceBNe, Nat.reduceBNe, Nat.reduceDiv, Nat.reduceMod, hgetA, hgetL, hgetLk, hsetA, hsetL, hsetLk, List.length_append, List.length_set, List.append_assoc, List.set_set, hget, hl1, hwr, hwr2, hb2, hb3, hdrop, hr1 M.length hb2]
        have ej : i + 1 + (k + 1) = j + 1 := by omega
        have hb5 : (M ++ [l.getD j 0]).length = M.length + 1 := by simp
        refine ⟨by omega, _, Weak.frame (fr' := [(0, .ref lo gn off l.length), (1, so), (5, dint (M.length + 1 : Nat)), (6, dint (j + 1 : Nat))]) (by simp only [go_sem, Nat.reduceAdd, Nat.reduceSub, Nat.reduceMul, Nat.reduceBEq, Nat.reduceLT, Nat.reduceLeDiff, Nat.reduceEqDiff, Int.reduceToNat, Int.reduceLE, Int.reduceLT, Int.reduceAdd, Int.reduceSub, Int.reduceNeg, Int.reduceBEq, Int.reduceBNe, Nat.reduceBNe, Nat.reduceDiv, Nat.reduceMod]), fun x => bif x == off + M.length then [dint (l.getD j 0)] else r2 x, ?_, ?_, ?_, ?_⟩
        · intro x hx
          show (bif off + x == off + M.length then [dint (l.getD j 0)] else r2 (off + x)).length = 1
          cases (off + x == off + M.length)
          · exact hr1 x hx
          · rfl
        · rw [ej, hst]
          intro x hx
          simp at hx
          by_cases hxm : x = M.length
          · subst hxm; simp only [beq_self_eq_true, cond_true]; simp; rfl
          · have e1 : (off + x == off + M.length) = false := by simp; omega
            have := hr2 x (by omega)
            simp only [e1, cond_false, this]
            rw [List.getD_eq_getElem?_getD, List.getD_eq_getElem?_getD, List.getElem?_append_left (by omega)]; rfl
        · intro x hx1 hx2
          have e1 : (off + x == off + M.length) = false := by simp; omega
          simp only [e1, cond_false]
          exact hr3 x (by omega) hx2
        · rw [ej, hst, hb5]; rfl
      · rw [if_neg (by simp only [hgk, Bool.not_true]; decide)] at hst
        refine kont_of_hx cx_ok hb 200 ?_
        simp only [go_sem, Nat.reduceAdd, Nat.reduceSub, Nat.reduceMul, Nat.reduceBEq, Nat.reduceLT, Nat.reduceLeDiff, Nat.reduceEqDiff, Int.reduceToNat, Int.reduceLE, Int.reduceLT, Int.reduceAdd, Int.reduceSub, Int.reduceNeg, Int.reduceBEq, Int.reduceBNe, Nat.reduceBNe, Nat.reduceDiv, Nat.reduceMod, hgetA, hgetL, hgetLk, hsetA, hsetL, hsetLk, List.length_append, List.length_set, List.append_assoc, List.set_set, hget, hl1, hwr]
        refine ⟨by omega, _, Weak.frame (fr' := [(0, .ref lo gn off l.length), (1, so), (5, dint M.length), (6, dint (j + 1 : Nat))]) (by simp only [go_sem, Nat.reduceAdd, Nat.reduceSub, Nat.reduceMul, Nat.reduceBEq, Nat.reduceLT, Nat.reduceLeDiff, Nat.reduceEqDiff, Int.reduceToNat, Int.reduceLE, Int.reduceLT, Int.reduceAdd, Int.reduceSub, Int.reduceNeg, Int.reduceBEq, Int.reduceBNe, Nat.reduceBNe, Nat.reduceDiv, Nat.reduceMod]), r2, hr1, ?_, ?_, ?_⟩
        · rw [show i + 1 + (k + 1) = j + 1 by omega, hst]; exact hr2
        · intro x hx1 hx2; exact hr3 x (by omega) hx2
        · rw [show i + 1 + (k + 1) = j + 1 by omega, hst]; rfl
    · subst hk1
      rw [List.take_length] at hM
      have hM2 : M = keepI gk l := hM
      rw [← hM2]
      have hb1 : M.length ≤ l.length := by omega
      refine kont_of_hx cx_ok hb 200 ?_
      simp only [go_sem, Nat.reduceAdd, Nat.reduceSub, Nat.reduceMul, Nat.reduceBEq, Nat.reduceLT, Nat.reduceLeDiff, Nat.reduceEqDiff, Int.reduceToNat, Int.reduceLE, Int.reduceLT, Int.reduceAdd, Int.reduceSub, Int.reduceNeg, Int.reduceBEq, Int.reduceBNe, Nat.reduceBNe, Nat.reduceDiv, Nat.reduceMod, hgetA, hgetL, hgetLk, hsetA, hsetL, hsetLk, List.length_append, List.length_set, List.append_assoc, List.set_set, hget, hl1, hb1]
      refine kont_clear lay_ok hb rfl hget rfl rfl rfl rfl (by simp; omega) rfl rfl rfl rfl ?_
      have hgS : ∀ r : Ob, (h.set lo r)[lo]? = some r := fun r => hgetS ho_l
      refine kont_of_hx cx_ok hb 200 ?_
      simp only [go_sem, Nat.reduceAdd, Nat.reduceSub, Nat.reduceMul, Nat.reduceBEq, Nat.reduceLT, Nat.reduceLeDiff, Nat.reduceEqDiff, Int.reduceToNat, Int.reduceLE, Int.reduceLT, Int.reduceAdd, Int.reduceSub, Int.reduceNeg, Int.reduceBEq, Int.reduceBNe, Nat.reduceBNe, Nat.reduceDiv, Nat.reduceMod, hgetA, hgetL, hgetLk, hsetA, hsetL, hsetLk, List.length_append, List.length_set, List.append_assoc, List.set_set, hgS, ho_l, hb1]
      refine ⟨by simp, _, rfl, fun x hx => by rw [clearRow_lt (by omega)]; exact hr2 x hx⟩
theorem deleteFunc2_ok (so : D) (f nf : Nat) (caps : List D) (hf : FnOk Try.prog f) (hso : calleeD so = some (f, nf, caps)) (gk : Int → Bool) (hg : TellsX h lo f nf caps gk) (hg2 : TellsX (h.map Ob.ro) lo f nf caps gk) :
    MFn Try.prog 64 h [.ref lo gn off l.length, so] (fun d h' => d = .ref lo gn off (keepI gk l).length ∧ ∃ row', h' = h.set lo ⟨.arr, gn, 1, off + (keepI gk l).length, row'⟩ ∧ ∀ i, i < (keepI gk l).length → row' (off + i) = [dint ((keepI gk l).getD i 0)]) := by
  refine MFn.cut (deleteFunc_ok h l lo gn off row hlen ho hr so f nf caps hf hso gk hg hg2) ?_
  rintro d h' ⟨rfl, row', rfl, hr'⟩
  have := List.length_filter_le (fun x => !gk x) l
  refine ⟨lo, ⟨.arr, gn, 1, off + l.length, row'⟩, off + (keepI gk l).length, hgetS (hlt ho), rfl, by simp only [keepI]; omega, rfl, row', by rw [List.set_set], hr'⟩
end
end Go.Fg.X
namespace Go.Fg.X
open Go.Proofs Go.Fg
set_option maxRecDepth 100000
set_option maxHeartbeats 4000000
set_option linter.unusedSimpArgs false
set_option linter.unusedVariables false
section
variable (h : List Ob) (t m c : Nat) {es : List Ent} {L : List Kls} (T : TreeIs es L) (hlen : L.length < 1000000)
  (ht : (h.map Ob.ro)[t]? = some ⟨.rone, 0, 1, 1, fun _ => [.mref m 0]⟩) (hm : (h.map Ob.ro)[m]? = some (mapOb .i64 c es).ro)
include T ht hm hlen
theorem hleaves_ok : RFn Try.prog 65 h [.ptr t 0 0 0] (fun d g => SlcH h.length (h ++ g) d ((L.filter (·.leaf)).map (·.iD))) := by
  refine RFn_hx cx_ok 200 Try.func65 rfl Try.ntmps65 Try.results65 rfl fun base w pl F hF hFl hb => ?_
  rw [← hF] at ht hm
  have ht_l := hlt ht
  have hm_l := hlt hm
  simp only [go_sem, Nat.reduceAdd, Nat.reduceSub, Nat.reduceMul, Nat.reduceBEq, Nat.reduceLT, Nat.reduceLeDiff, Nat.reduceEqDiff, Int.reduceToNat, Int.reduceLE, Int.reduceLT, Int.reduceAdd, Int.reduceSub, Int.reduceNeg, Int.reduceBEq, Int.reduceBNe, Nat.reduceBNe, Nat.reduceDiv, Nat.reduceMod, hgetA, hgetL, hgetLk, hsetA, hsetL, hsetLk, List.length_append, List.length_set, List.append_assoc, List.set_set, ht, ht_l, hm, hm_l]
  have hT : Tells (F.map Ob.ro) 105 0 [] (fun x => x.leaf) := fun h' x hx' => by
    refine RFn0_hx cx_ok 200 Try.func105 rfl Try.ntmps105 Try.results105 rfl fun base w pl F hF hFl hb => ?_
    simp only [go_sem, Nat.reduceAdd, Nat.reduceSub, Nat.reduceMul, Nat.reduceBEq, Nat.reduceLT, Nat.reduceLeDiff, Nat.reduceEqDiff, Int.reduceToNat, Int.reduceLE, Int.reduceLT, Int.reduceAdd, Int.reduceSub, Int.reduceNeg, Int.reduceBEq, Int.reduceBNe, Nat.reduceBNe, Nat.reduceDiv, Nat.reduceMod, hgetA, hgetL, hgetLk, hsetA, hsetL, hsetLk, List.length_append, List.length_set, List.append_assoc, List.set_set]
    exact ⟨_, rfl⟩
  refine kont_callR hb fn96 rfl ?_ (hwhich_ok _ t m c T hlen (ro_get ht) (roro_get hm) (.raw (.func (.func 105) ⟨[]⟩ ⟨[]⟩)) 105 0 [] fn105 rfl _ hT) rfl fun d g hs => ?_
  · simp only [go_sem, Nat.reduceAdd, Nat.reduceSub, Nat.reduceMul, Nat.reduceBEq, Nat.reduceLT, Nat.reduceLeDiff, Nat.reduceEqDiff, Int.reduceToNat, Int.reduceLE, Int.reduceLT, Int.reduceAdd, Int.reduceSub, Int.reduceNeg, Int.reduceBEq, Int.reduceBNe, Nat.reduceBNe, Nat.reduceDiv, Nat.reduceMod]
  refine kont_of_hx cx_ok hb 200 ?_
  simp only [go_sem, Nat.reduceAdd, Nat.reduceSub, Nat.reduceMul, Nat.reduceBEq, Nat.reduceLT, Nat.reduceLeDiff, Nat.reduceEqDiff, Int.reduceToNat, Int.reduceLE, Int.reduceLT, Int.reduceAdd, Int.reduceSub, Int.reduceNeg, Int.reduceBEq, Int.reduceBNe, Nat.reduceBNe, Nat.reduceDiv, Nat.reduceMod, hgetA, hgetL, hgetLk, hsetA, hsetL, hsetLk, List.length_append, List.length_set, List.append_assoc, List.set_set]
  exact SlcH.done hFl ⟨_, rfl⟩ hs
end
end Go.Fg.X
namespace Go.Fg.X.SP
open Go.Proofs Go.Fg
set_option maxRecDepth 100000
set_option linter.unusedSimpArgs false
set_option linter.unusedVariables false
theorem has_ok (l : List Int) (id : Int) (hl : l.length < 2147483648) : AFn Try.prog 69 [ints l, dint id] (Ret (dbool (l.contains id))) := by
  refine AFn_hxk 0 cx_ok 200 Try.func69 rfl Try.ntmps69 Try.results69 rfl fun base w hb => ?_
  simp only [go_sem, Nat.reduceAdd, Nat.reduceSub, Nat.reduceMul, Nat.reduceBEq, Nat.reduceLT, Nat.reduceLeDiff, Nat.reduceEqDiff, Int.reduceToNat, Int.reduceLE, Int.reduceLT, Int.reduceAdd, Int.reduceSub, Int.reduceNeg, Int.reduceBEq, Int.reduceBNe, Nat.reduceBNe, Nat.reduceDiv, Nat.reduceMod]
  refine kont_loop (fun m s => ∃ k : Nat, k + m = l.length ∧ (l.take k).contains id = false ∧ s = ⟨[(1, dint id), (7, ints l), (8, dint l.length), (9, dint k)], []⟩) l.length (s0 := ⟨[(1, dint id), (7, ints l), (8, dint l.length), (9, dint 0)], []⟩) (Weak.frame (by simp only [go_sem, Nat.reduceAdd, Nat.reduceSub, Nat.reduceMul, Nat.reduceBEq, Nat.reduceLT, Nat.reduceLeDiff, Nat.reduceEqDiff, Int.reduceToNat, Int.reduceLE, Int.reduceLT, Int.reduceAdd, Int.reduceSub, Int.reduceNeg, Int.reduceBEq, Int.reduceBNe, Nat.reduceBNe, Nat.reduceDiv, Nat.reduceMod])) ⟨0, by simp, by simp, rfl⟩ ?_
  rintro m s ⟨k, hk, hno, rfl⟩
  refine kont_of_hx cx_ok hb 200 ?_
  simp only [go_sem, Nat.reduceAdd, Nat.reduceSub, Nat.reduceMul, Nat.reduceBEq, Nat.reduceLT, Nat.reduceLeDiff, Nat.reduceEqDiff, Int.reduceToNat, Int.reduceLE, Int.reduceLT, Int.reduceAdd, Int.reduceSub, Int.reduceNeg, Int.reduceBEq, Int.reduceBNe, Nat.reduceBNe, Nat.reduceDiv, Nat.reduceMod]
  refine hite_intro (fun h => ?_) (fun h => ?_)
  · have hk1 : k < l.length := by simpa using h
    have e1 := getD_take l 0 k hk1
    simp only [go_sem, Nat.reduceAdd, Nat.reduceSub, Nat.reduceMul, Nat.reduceBEq, Nat.reduceLT, Nat.reduceLeDiff, Nat.reduceEqDiff, Int.reduceToNat, Int.reduceLE, Int.reduceLT, Int.reduceAdd, Int.reduceSub, Int.reduceNeg, Int.reduceBEq, Int.reduceBNe, Nat.reduceBNe, Nat.reduceDiv, Nat.reduceMod, hk1]
    refine hite_intro (fun h2 => ?_) (fun h2 => ?_)
    · simp only [go_sem, Nat.reduceAdd, Nat.reduceSub, Nat.reduceMul, Nat.reduceBEq, Nat.reduceLT, Nat.reduceLeDiff, Nat.reduceEqDiff, Int.reduceToNat, Int.reduceLE, Int.reduceLT, Int.reduceAdd, Int.reduceSub, Int.reduceNeg, Int.reduceBEq, Int.reduceBNe, Nat.reduceBNe, Nat.reduceDiv, Nat.reduceMod]
      have : l.contains id = true := by
        rw [← List.take_append_drop (k + 1) l, e1]; simp at h2 ⊢; simp [h2]
      rw [this]
    · simp only [go_sem, Nat.reduceAdd, Nat.reduceSub, Nat.reduceMul, Nat.reduceBEq, Nat.reduceLT, Nat.reduceLeDiff, Nat.reduceEqDiff, Int.reduceToNat, Int.reduceLE, Int.reduceLT, Int.reduceAdd, Int.reduceSub, Int.reduceNeg, Int.reduceBEq, Int.reduceBNe, Nat.reduceBNe, Nat.reduceDiv, Nat.reduceMod]
      refine ⟨m - 1, _, by omega, Weak.frame (by simp only [go_sem, Nat.reduceAdd, Nat.reduceSub, Nat.reduceMul, Nat.reduceBEq, Nat.reduceLT, Nat.reduceLeDiff, Nat.reduceEqDiff, Int.reduceToNat, Int.reduceLE, Int.reduceLT, Int.reduceAdd, Int.reduceSub, Int.reduceNeg, Int.reduceBEq, Int.reduceBNe, Nat.reduceBNe, Nat.reduceDiv, Nat.reduceMod, wrap_succ (show k < 4611686018427387904 by omega)]), k + 1, by omega, ?_, rfl⟩
      rw [e1]; simp at hno h2 ⊢; exact ⟨hno, fun e => h2 e.symm⟩
  · have hk1 : k = l.length := by simp at h; omega
    simp only [go_sem, Nat.reduceAdd, Nat.reduceSub, Nat.reduceMul, Nat.reduceBEq, Nat.reduceLT, Nat.reduceLeDiff, Nat.reduceEqDiff, Int.reduceToNat, Int.reduceLE, Int.reduceLT, Int.reduceAdd, Int.reduceSub, Int.reduceNeg, Int.reduceBEq, Int.reduceBNe, Nat.reduceBNe, Nat.reduceDiv, Nat.reduceMod]
    refine kont_of_hx cx_ok hb 200 ?_
    simp only [go_sem, Nat.reduceAdd, Nat.reduceSub, Nat.reduceMul, Nat.reduceBEq, Nat.reduceLT, Nat.reduceLeDiff, Nat.reduceEqDiff, Int.reduceToNat, Int.reduceLE, Int.reduceLT, Int.reduceAdd, Int.reduceSub, Int.reduceNeg, Int.reduceBEq, Int.reduceBNe, Nat.reduceBNe, Nat.reduceDiv, Nat.reduceMod]
    subst hk1
    simp at hno
    simp [hno]

def indexOf (l : List Int) (v : Int) : Int := if l.contains v then (l.idxOf v : Nat) else -1
theorem index_ok (l : List Int) (id : Int) (hl : l.length < 2147483648) : AFn Try.prog 106 [ints l, dint id] (Ret (dint (indexOf l id))) := by
  refine AFn_hxk 0 cx_ok 200 Try.func106 rfl Try.ntmps106 Try.results106 rfl fun base w hb => ?_
  simp only [go_sem, Nat.reduceAdd, Nat.reduceSub, Nat.reduceMul, Nat.reduceBEq, Nat.reduceLT, Nat.reduceLeDiff, Nat.reduceEqDiff, Int.reduceToNat, Int.reduceLE, Int.reduceLT, Int.reduceAdd, Int.reduceSub, Int.reduceNeg, Int.reduceBEq, Int.reduceBNe, Nat.reduceBNe, Nat.reduceDiv, Nat.reduceMod]
  refine kont_for (fun k s => (l.take k).contains id = false ∧ s = ⟨[(0, ints l), (1, dint id), (6, ints l), (7, dint l.length), (8, dint k)], []⟩) l.length (s0 := ⟨[(0, ints l), (1, dint id), (6, ints l), (7, dint l.length), (8, dint 0)], []⟩) (Weak.frame (by simp only [go_sem, Nat.reduceAdd, Nat.reduceSub, Nat.reduceMul, Nat.reduceBEq, Nat.reduceLT, Nat.reduceLeDiff, Nat.reduceEqDiff, Int.reduceToNat, Int.reduceLE, Int.reduceLT, Int.reduceAdd, Int.reduceSub, Int.reduceNeg, Int.reduceBEq, Int.reduceBNe, Nat.reduceBNe, Nat.reduceDiv, Nat.reduceMod])) ⟨by simp, rfl⟩ ?_
  rintro k s hk ⟨hno, rfl⟩
  refine kont_of_hx cx_ok hb 200 ?_
  simp only [go_sem, Nat.reduceAdd, Nat.reduceSub, Nat.reduceMul, Nat.reduceBEq, Nat.reduceLT, Nat.reduceLeDiff, Nat.reduceEqDiff, Int.reduceToNat, Int.reduceLE, Int.reduceLT, Int.reduceAdd, Int.reduceSub, Int.reduceNeg, Int.reduceBEq, Int.reduceBNe, Nat.reduceBNe, Nat.reduceDiv, Nat.reduceMod]
  refine hite_intro (fun h => ?_) (fun h => ?_)
  · have hk1 : k < l.length := by simpa using h
    have e1 := getD_take l 0 k hk1
    simp only [go_sem, Nat.reduceAdd, Nat.reduceSub, Nat.reduceMul, Nat.reduceBEq, Nat.reduceLT, Nat.reduceLeDiff, Nat.reduceEqDiff, Int.reduceToNat, Int.reduceLE, Int.reduceLT, Int.reduceAdd, Int.reduceSub, Int.reduceNeg, Int.reduceBEq, Int.reduceBNe, Nat.reduceBNe, Nat.reduceDiv, Nat.reduceMod, hk1]
    refine hite_intro (fun h2 => ?_) (fun h2 => ?_)
    · simp only [go_sem, Nat.reduceAdd, Nat.reduceSub, Nat.reduceMul, Nat.reduceBEq, Nat.reduceLT, Nat.reduceLeDiff, Nat.reduceEqDiff, Int.reduceToNat, Int.reduceLE, Int.reduceLT, Int.reduceAdd, Int.reduceSub, Int.reduceNeg, Int.reduceBEq, Int.reduceBNe, Nat.reduceBNe, Nat.reduceDiv, Nat.reduceMod]
      have h3 : l = l.take k ++ id :: l.drop (k + 1) := by
        conv => lhs; rw [← List.take_append_drop (k + 1) l, e1]
        simp at h2; simp [h2]
      have : indexOf l id = k := by
        have hc : l.contains id = true := by rw [h3]; simp
        have h4 : ¬ id ∈ l.take k := by simpa using hno
        rw [indexOf, hc]; simp only [if_true]
        rw [h3, List.idxOf_append, if_neg h4]; simp; omega
      rw [this]
    · simp only [go_sem, Nat.reduceAdd, Nat.reduceSub, Nat.reduceMul, Nat.reduceBEq, Nat.reduceLT, Nat.reduceLeDiff, Nat.reduceEqDiff, Int.reduceToNat, Int.reduceLE, Int.reduceLT, Int.reduceAdd, Int.reduceSub, Int.reduceNeg, Int.reduceBEq, Int.reduceBNe, Nat.reduceBNe, Nat.reduceDiv, Nat.reduceMod]
      refine ⟨by omega, _, Weak.frame (by simp only [go_sem, Nat.reduceAdd, Nat.reduceSub, Nat.reduceMul, Nat.reduceBEq, Nat.reduceLT, Nat.reduceLeDiff, Nat.reduceEqDiff, Int.reduceToNat, Int.reduceLE, Int.reduceLT, Int.reduceAdd, Int.reduceSub, Int.reduceNeg, Int.reduceBEq, Int.reduceBNe, Nat.reduceBNe, Nat.reduceDiv, Nat.reduceMod, wrap_succ (show k < 4611686018427387904 by omega)]), ?_, rfl⟩
      rw [e1]; simp at hno h2 ⊢; exact ⟨hno, h2⟩
  · have hk1 : k = l.length := by simp at h; omega
    simp only [go_sem, Nat.reduceAdd, Nat.reduceSub, Nat.reduceMul, Nat.reduceBEq, Nat.reduceLT, Nat.reduceLeDiff, Nat.reduceEqDiff, Int.reduceToNat, Int.reduceLE, Int.reduceLT, Int.reduceAdd, Int.reduceSub, Int.reduceNeg, Int.reduceBEq, Int.reduceBNe, Nat.reduceBNe, Nat.reduceDiv, Nat.reduceMod]
    refine kont_of_hx cx_ok hb 200 ?_
    simp only [go_sem, Nat.reduceAdd, Nat.reduceSub, Nat.reduceMul, Nat.reduceBEq, Nat.reduceLT, Nat.reduceLeDiff, Nat.reduceEqDiff, Int.reduceToNat, Int.reduceLE, Int.reduceLT, Int.reduceAdd, Int.reduceSub, Int.reduceNeg, Int.reduceBEq, Int.reduceBNe, Nat.reduceBNe, Nat.reduceDiv, Nat.reduceMod]
    subst hk1
    simp at hno
    simp [indexOf, hno]

theorem contains_ok (l : List Int) (id : Int) (hl : l.length < 2147483648) : AFn Try.prog 67 [ints l, dint id] (Ret (dbool (l.contains id))) := by
  refine AFn_hxk 0 cx_ok 200 Try.func67 rfl Try.ntmps67 Try.results67 rfl fun base w hb => ?_
  simp only [go_sem, Nat.reduceAdd, Nat.reduceSub, Nat.reduceMul, Nat.reduceBEq, Nat.reduceLT, Nat.reduceLeDiff, Nat.reduceEqDiff, Int.reduceToNat, Int.reduceLE, Int.reduceLT, Int.reduceAdd, Int.reduceSub, Int.reduceNeg, Int.reduceBEq, Int.reduceBNe, Nat.reduceBNe, Nat.reduceDiv, Nat.reduceMod]
  refine kont_call hb fn106 rfl ?_ (index_ok l id hl) (Ret.flat rfl) rfl fun d h hR => ?_
  · simp only [go_sem, Nat.reduceAdd, Nat.reduceSub, Nat.reduceMul, Nat.reduceBEq, Nat.reduceLT, Nat.reduceLeDiff, Nat.reduceEqDiff, Int.reduceToNat, Int.reduceLE, Int.reduceLT, Int.reduceAdd, Int.reduceSub, Int.reduceNeg, Int.reduceBEq, Int.reduceBNe, Nat.reduceBNe, Nat.reduceDiv, Nat.reduceMod]
  obtain ⟨rfl, rfl⟩ := hR
  refine kont_of_hx cx_ok hb 200 ?_
  simp only [go_sem, Nat.reduceAdd, Nat.reduceSub, Nat.reduceMul, Nat.reduceBEq, Nat.reduceLT, Nat.reduceLeDiff, Nat.reduceEqDiff, Int.reduceToNat, Int.reduceLE, Int.reduceLT, Int.reduceAdd, Int.reduceSub, Int.reduceNeg, Int.reduceBEq, Int.reduceBNe, Nat.reduceBNe, Nat.reduceDiv, Nat.reduceMod]
  unfold indexOf
  cases l.contains id <;> simp
  
def lenN (n : Nat) (e : Ev) (lv : List Int) : Nat := if lv.contains e.cls then (if e.inn then n + 1 else n - 1) else n
theorem length_ok (n : Nat) (e : Ev) (lv : List Int) (hl : lv.length < 2147483648) (hn : n < 2147483648) : AFn Try.prog 89 [dint n, .agg e.cells, ints lv] (Ret (dint (lenN n e lv))) := by
  refine AFn_hxk 0 cx_ok 200 Try.func89 rfl Try.ntmps89 Try.results89 rfl fun base w hb => ?_
  simp only [go_sem, Nat.reduceAdd, Nat.reduceSub, Nat.reduceMul, Nat.reduceBEq, Nat.reduceLT, Nat.reduceLeDiff, Nat.reduceEqDiff, Int.reduceToNat, Int.reduceLE, Int.reduceLT, Int.reduceAdd, Int.reduceSub, Int.reduceNeg, Int.reduceBEq, Int.reduceBNe, Nat.reduceBNe, Nat.reduceDiv, Nat.reduceMod]
  refine kont_call hb fn67 rfl ?_ (contains_ok lv e.cls hl) (Ret.flat rfl) rfl fun d h hR => ?_
  · simp only [go_sem, Nat.reduceAdd, Nat.reduceSub, Nat.reduceMul, Nat.reduceBEq, Nat.reduceLT, Nat.reduceLeDiff, Nat.reduceEqDiff, Int.reduceToNat, Int.reduceLE, Int.reduceLT, Int.reduceAdd, Int.reduceSub, Int.reduceNeg, Int.reduceBEq, Int.reduceBNe, Nat.reduceBNe, Nat.reduceDiv, Nat.reduceMod]
  obtain ⟨rfl, rfl⟩ := hR
  refine kont_of_hx cx_ok hb 200 ?_
  simp only [go_sem, Nat.reduceAdd, Nat.reduceSub, Nat.reduceMul, Nat.reduceBEq, Nat.reduceLT, Nat.reduceLeDiff, Nat.reduceEqDiff, Int.reduceToNat, Int.reduceLE, Int.reduceLT, Int.reduceAdd, Int.reduceSub, Int.reduceNeg, Int.reduceBEq, Int.reduceBNe, Nat.reduceBNe, Nat.reduceDiv, Nat.reduceMod]
  refine hite_intro (fun h => ?_) (fun h => ?_)
  · simp only [go_sem, Nat.reduceAdd, Nat.reduceSub, Nat.reduceMul, Nat.reduceBEq, Nat.reduceLT, Nat.reduceLeDiff, Nat.reduceEqDiff, Int.reduceToNat, Int.reduceLE, Int.reduceLT, Int.reduceAdd, Int.reduceSub, Int.reduceNeg, Int.reduceBEq, Int.reduceBNe, Nat.reduceBNe, Nat.reduceDiv, Nat.reduceMod]
    simp only [lenN]; simp at h; simp [h]
  · simp only [go_sem, Nat.reduceAdd, Nat.reduceSub, Nat.reduceMul, Nat.reduceBEq, Nat.reduceLT, Nat.reduceLeDiff, Nat.reduceEqDiff, Int.reduceToNat, Int.reduceLE, Int.reduceLT, Int.reduceAdd, Int.reduceSub, Int.reduceNeg, Int.reduceBEq, Int.reduceBNe, Nat.reduceBNe, Nat.reduceDiv, Nat.reduceMod]
    refine hite_intro (fun h2 => ?_) (fun h2 => ?_)
    · simp only [go_sem, Nat.reduceAdd, Nat.reduceSub, Nat.reduceMul, Nat.reduceBEq, Nat.reduceLT, Nat.reduceLeDiff, Nat.reduceEqDiff, Int.reduceToNat, Int.reduceLE, Int.reduceLT, Int.reduceAdd, Int.reduceSub, Int.reduceNeg, Int.reduceBEq, Int.reduceBNe, Nat.reduceBNe, Nat.reduceDiv, Nat.reduceMod, wrap_succ (show n < 4611686018427387904 by omega)]
      simp only [lenN]; simp at h; simp [h, h2]
    · simp only [go_sem, Nat.reduceAdd, Nat.reduceSub, Nat.reduceMul, Nat.reduceBEq, Nat.reduceLT, Nat.reduceLeDiff, Nat.reduceEqDiff, Int.reduceToNat, Int.reduceLE, Int.reduceLT, Int.reduceAdd, Int.reduceSub, Int.reduceNeg, Int.reduceBEq, Int.reduceBNe, Nat.reduceBNe, Nat.reduceDiv, Nat.reduceMod]
      rw [wrap64 (by omega) (by omega)]
      have : max ((n : Int) - 1) 0 = ((n - 1 : Nat) : Int) := by omega
      rw [this]
      simp only [lenN]; simp at h; simp [h, h2]

def lenAt (lv : List Int) (l : List Ev) : Nat → Nat
  | 0 => 0
  | k + 1 => lenN (lenAt lv l k) (l.getD k default) lv
theorem lenAt_le (lv : List Int) (l : List Ev) : ∀ k, lenAt lv l k ≤ k
  | 0 => Nat.le_refl _
  | k + 1 => by have := lenAt_le lv l k; simp only [lenAt, lenN]; split <;> (try split) <;> omega

theorem backlogged_ok (l : List Ev) (lv : List Int) (hl : l.length < 2147483648) (hv : lv.length < 2147483648) : AFn Try.prog 53 [evs l, ints lv] (Ret (dbool (decide (0 < lenAt lv l l.length)))) := by
  refine AFn_hxk 0 cx_ok 200 Try.func53 rfl Try.ntmps53 Try.results53 rfl fun base w hb => ?_
  simp only [go_sem, Nat.reduceAdd, Nat.reduceSub, Nat.reduceMul, Nat.reduceBEq, Nat.reduceLT, Nat.reduceLeDiff, Nat.reduceEqDiff, Int.reduceToNat, Int.reduceLE, Int.reduceLT, Int.reduceAdd, Int.reduceSub, Int.reduceNeg, Int.reduceBEq, Int.reduceBNe, Nat.reduceBNe, Nat.reduceDiv, Nat.reduceMod]
  refine kont_for (fun k s => s = ⟨[(1, ints lv), (5, dint (lenAt lv l k)), (8, evs l), (9, dint l.length), (10, dint k)], []⟩) l.length (s0 := ⟨[(1, ints lv), (5, dint 0), (8, evs l), (9, dint l.length), (10, dint 0)], []⟩) (Weak.frame (by simp only [go_sem, Nat.reduceAdd, Nat.reduceSub, Nat.reduceMul, Nat.reduceBEq, Nat.reduceLT, Nat.reduceLeDiff, Nat.reduceEqDiff, Int.reduceToNat, Int.reduceLE, Int.reduceLT, Int.reduceAdd, Int.reduceSub, Int.reduceNeg, Int.reduceBEq, Int.reduceBNe, Nat.reduceBNe, Nat.reduceDiv, Nat.reduceMod])) rfl ?_
  rintro k s hk rfl
  have hle := lenAt_le lv l k
  refine kont_of_hx cx_ok hb 200 ?_
  simp only [go_sem, Nat.reduceAdd, Nat.reduceSub, Nat.reduceMul, Nat.reduceBEq, Nat.reduceLT, Nat.reduceLeDiff, Nat.reduceEqDiff, Int.reduceToNat, Int.reduceLE, Int.reduceLT, Int.reduceAdd, Int.reduceSub, Int.reduceNeg, Int.reduceBEq, Int.reduceBNe, Nat.reduceBNe, Nat.reduceDiv, Nat.reduceMod]
  refine hite_intro (fun h => ?_) (fun h => ?_)
  · have hk1 : k < l.length := by simpa using h
    simp only [go_sem, Nat.reduceAdd, Nat.reduceSub, Nat.reduceMul, Nat.reduceBEq, Nat.reduceLT, Nat.reduceLeDiff, Nat.reduceEqDiff, Int.reduceToNat, Int.reduceLE, Int.reduceLT, Int.reduceAdd, Int.reduceSub, Int.reduceNeg, Int.reduceBEq, Int.reduceBNe, Nat.reduceBNe, Nat.reduceDiv, Nat.reduceMod, hk1]
    refine kont_call hb fn89 rfl ?_ (length_ok (lenAt lv l k) (l.getD k default) lv hv (by omega)) (Ret.flat rfl) rfl fun d h hR => ?_
    · simp only [go_sem, Nat.reduceAdd, Nat.reduceSub, Nat.reduceMul, Nat.reduceBEq, Nat.reduceLT, Nat.reduceLeDiff, Nat.reduceEqDiff, Int.reduceToNat, Int.reduceLE, Int.reduceLT, Int.reduceAdd, Int.reduceSub, Int.reduceNeg, Int.reduceBEq, Int.reduceBNe, Nat.reduceBNe, Nat.reduceDiv, Nat.reduceMod]
    obtain ⟨rfl, rfl⟩ := hR
    refine kont_of_hx cx_ok hb 200 ?_
    simp only [go_sem, Nat.reduceAdd, Nat.reduceSub, Nat.reduceMul, Nat.reduceBEq, Nat.reduceLT, Nat.reduceLeDiff, Nat.reduceEqDiff, Int.reduceToNat, Int.reduceLE, Int.reduceLT, Int.reduceAdd, Int.reduceSub, Int.reduceNeg, Int.reduceBEq, Int.reduceBNe, Nat.reduceBNe, Nat.reduceDiv, Nat.reduceMod]
    refine ⟨by omega, _, Weak.to 0 (by simp only [go_sem, Nat.reduceAdd, Nat.reduceSub, Nat.reduceMul, Nat.reduceBEq, Nat.reduceLT, Nat.reduceLeDiff, Nat.reduceEqDiff, Int.reduceToNat, Int.reduceLE, Int.reduceLT, Int.reduceAdd, Int.reduceSub, Int.reduceNeg, Int.reduceBEq, Int.reduceBNe, Nat.reduceBNe, Nat.reduceDiv, Nat.reduceMod, wrap_succ (show k < 4611686018427387904 by omega), lenAt]), rfl⟩
  · have hk1 : k = l.length := by simp at h; omega
    simp only [go_sem, Nat.reduceAdd, Nat.reduceSub, Nat.reduceMul, Nat.reduceBEq, Nat.reduceLT, Nat.reduceLeDiff, Nat.reduceEqDiff, Int.reduceToNat, Int.reduceLE, Int.reduceLT, Int.reduceAdd, Int.reduceSub, Int.reduceNeg, Int.reduceBEq, Int.reduceBNe, Nat.reduceBNe, Nat.reduceDiv, Nat.reduceMod]
    refine kont_of_hx cx_ok hb 200 ?_
    simp only [go_sem, Nat.reduceAdd, Nat.reduceSub, Nat.reduceMul, Nat.reduceBEq, Nat.reduceLT, Nat.reduceLeDiff, Nat.reduceEqDiff, Int.reduceToNat, Int.reduceLE, Int.reduceLT, Int.reduceAdd, Int.reduceSub, Int.reduceNeg, Int.reduceBEq, Int.reduceBNe, Nat.reduceBNe, Nat.reduceDiv, Nat.reduceMod]
    subst hk1
    simp

structure Sp where
  frm : Int
  to : Int
  fst : Int
  lst : Int
  opn : Bool
instance : Inhabited Sp := ⟨⟨0, 0, 0, 0, false⟩⟩
@[go_sem] def Sp.cells (s : Sp) : List D := [.raw (.int .u64 s.frm), .raw (.int .u64 s.to), .raw (.int .i64 s.fst), .raw (.int .i64 s.lst), .raw (.bool s.opn)]
def spStep (lv : List Int) (i : Nat) (e : Ev) (n : Nat) (out : List Sp) : List Sp :=
  if n = 0 ∧ 0 < lenN n e lv then out ++ [⟨e.at_, 0, i, 0, true⟩]
  else if 0 < n ∧ lenN n e lv = 0 then out.set (out.length - 1) { out.getD (out.length - 1) default with to := e.at_, lst := i, opn := false }
  else out
def spAt (lv : List Int) (l : List Ev) : Nat → List Sp
  | 0 => []
  | k + 1 => spStep lv k (l.getD k default) (lenAt lv l k) (spAt lv l k)

theorem spAt_len (lv : List Int) (l : List Ev) : ∀ k, (spAt lv l k).length ≤ k
  | 0 => Nat.le_refl _
  | k + 1 => by have := spAt_len lv l k; simp only [spAt, spStep]; split <;> (try split) <;> simp <;> omega
theorem spAt_pos (lv : List Int) (l : List Ev) : ∀ k, 0 < lenAt lv l k → 0 < (spAt lv l k).length
  | 0, h => by simp [lenAt] at h
  | k + 1, h => by
    have := spAt_pos lv l k
    simp only [lenAt] at h
    simp only [spAt, spStep]; split <;> (try split) <;> simp <;> omega
set_option maxRecDepth 4000 in
theorem of_ok (l : List Ev) (lv : List Int) (hl : l.length < 2147483648) (hv : lv.length < 2147483648) : AFn Try.prog 52 [evs l, ints lv] (RetL 5 Sp.cells (spAt lv l l.length)) := by
  refine AFn_hxk 1 cx_ok 200 Try.func52 rfl Try.ntmps52 Try.results52 rfl fun base w hb => ?_
  simp only [go_sem, Nat.reduceAdd, Nat.reduceSub, Nat.reduceMul, Nat.reduceBEq, Nat.reduceLT, Nat.reduceLeDiff, Nat.reduceEqDiff, Int.reduceToNat, Int.reduceLE, Int.reduceLT, Int.reduceAdd, Int.reduceSub, Int.reduceNeg, Int.reduceBEq, Int.reduceBNe, Nat.reduceBNe, Nat.reduceDiv, Nat.reduceMod]
  refine kont_for (fun k s => ∃ g, s = ⟨[(1, ints lv), (5, .ref 0 g 0 (spAt lv l k).length), (6, dint (lenAt lv l k)), (11, evs l), (12, dint l.length), (13, dint k)], [⟨.arr, g, 5, (spAt lv l k).length, fun i => ((spAt lv l k).getD i default).cells⟩]⟩) l.length
    (s0 := ⟨[(1, ints lv), (5, .ref 0 0 0 0), (6, dint 0), (11, evs l), (12, dint l.length), (13, dint 0)], [⟨.arr, 0, 5, 0, fun i => (([] : List Sp).getD i default).cells⟩]⟩)
    (Weak.trans (Weak.phantom 5 5 (fun i => (([] : List Sp).getD i default).cells) rfl) (Weak.frame (by simp only [go_sem, Nat.reduceAdd, Nat.reduceSub, Nat.reduceMul, Nat.reduceBEq, Nat.reduceLT, Nat.reduceLeDiff, Nat.reduceEqDiff, Int.reduceToNat, Int.reduceLE, Int.reduceLT, Int.reduceAdd, Int.reduceSub, Int.reduceNeg, Int.reduceBEq, Int.reduceBNe, Nat.reduceBNe, Nat.reduceDiv, Nat.reduceMod]))) ⟨0, rfl⟩ ?_
  rintro k s hk ⟨g, rfl⟩
  have hle := lenAt_le lv l k
  refine kont_of_hx cx_ok hb 200 ?_
  simp only [go_sem, Nat.reduceAdd, Nat.reduceSub, Nat.reduceMul, Nat.reduceBEq, Nat.reduceLT, Nat.reduceLeDiff, Nat.reduceEqDiff, Int.reduceToNat, Int.reduceLE, Int.reduceLT, Int.reduceAdd, Int.reduceSub, Int.reduceNeg, Int.reduceBEq, Int.reduceBNe, Nat.reduceBNe, Nat.reduceDiv, Nat.reduceMod]
  refine hite_intro (fun h => ?_) (fun h => ?_)
  · have hk1 : k < l.length := by simpa using h
    simp only [go_sem, Nat.reduceAdd, Nat.reduceSub, Nat.reduceMul, Nat.reduceBEq, Nat.reduceLT, Nat.reduceLeDiff, Nat.reduceEqDiff, Int.reduceToNat, Int.reduceLE, Int.reduceLT, Int.reduceAdd, Int.reduceSub, Int.reduceNeg, Int.reduceBEq, Int.reduceBNe, Nat.reduceBNe, Nat.reduceDiv, Nat.reduceMod, hk1]
    refine kont_call hb fn89 rfl ?_ (length_ok (lenAt lv l k) (l.getD k default) lv hv (by omega)) (Ret.flat rfl) rfl fun d h hR => ?_
    · simp only [go_sem, Nat.reduceAdd, Nat.reduceSub, Nat.reduceMul, Nat.reduceBEq, Nat.reduceLT, Nat.reduceLeDiff, Nat.reduceEqDiff, Int.reduceToNat, Int.reduceLE, Int.reduceLT, Int.reduceAdd, Int.reduceSub, Int.reduceNeg, Int.reduceBEq, Int.reduceBNe, Nat.reduceBNe, Nat.reduceDiv, Nat.reduceMod]
    obtain ⟨rfl, rfl⟩ := hR
    refine kont_of_hx cx_ok hb 200 ?_
    simp only [go_sem, Nat.reduceAdd, Nat.reduceSub, Nat.reduceMul, Nat.reduceBEq, Nat.reduceLT, Nat.reduceLeDiff, Nat.reduceEqDiff, Int.reduceToNat, Int.reduceLE, Int.reduceLT, Int.reduceAdd, Int.reduceSub, Int.reduceNeg, Int.reduceBEq, Int.reduceBNe, Nat.reduceBNe, Nat.reduceDiv, Nat.reduceMod]
    have hle2 := lenAt_le lv l (k + 1)
    simp only [lenAt] at hle2
    have hlen := spAt_len lv l k
    have hwr := wrap_succ (show k < 4611686018427387904 by omega)
    by_cases hn : lenAt lv l k = 0 <;> by_cases hm : lenN (lenAt lv l k) (l.getD k default) lv = 0
    · have e5 : spAt lv l (k + 1) = spAt lv l k := by simp only [spAt, spStep]; rw [if_neg (by omega), if_neg (by omega)]
      simp only [go_sem, Nat.reduceAdd, Nat.reduceSub, Nat.reduceMul, Nat.reduceBEq, Nat.reduceLT, Nat.reduceLeDiff, Nat.reduceEqDiff, Int.reduceToNat, Int.reduceLE, Int.reduceLT, Int.reduceAdd, Int.reduceSub, Int.reduceNeg, Int.reduceBEq, Int.reduceBNe, Nat.reduceBNe, Nat.reduceDiv, Nat.reduceMod, bz hn, dnp hm, dnp hn, bz hm]
      exact ⟨hk1, _, Weak.to 1 (by simp only [go_sem, Nat.reduceAdd, Nat.reduceSub, Nat.reduceMul, Nat.reduceBEq, Nat.reduceLT, Nat.reduceLeDiff, Nat.reduceEqDiff, Int.reduceToNat, Int.reduceLE, Int.reduceLT, Int.reduceAdd, Int.reduceSub, Int.reduceNeg, Int.reduceBEq, Int.reduceBNe, Nat.reduceBNe, Nat.reduceDiv, Nat.reduceMod, hwr, lenAt, e5]), g, rfl⟩
    · have e5 : spAt lv l (k + 1) = spAt lv l k ++ [⟨(l.getD k default).at_, 0, k, 0, true⟩] := by simp only [spAt, spStep]; rw [if_pos (by omega)]
      simp only [go_sem, Nat.reduceAdd, Nat.reduceSub, Nat.reduceMul, Nat.reduceBEq, Nat.reduceLT, Nat.reduceLeDiff, Nat.reduceEqDiff, Int.reduceToNat, Int.reduceLE, Int.reduceLT, Int.reduceAdd, Int.reduceSub, Int.reduceNeg, Int.reduceBEq, Int.reduceBNe, Nat.reduceBNe, Nat.reduceDiv, Nat.reduceMod, bz hn, dp hm, dnp hn, bnz hm]
      refine ⟨by omega, hk1, _, Weak.to 1 ⟨?_, by simp only [go_sem, Nat.reduceAdd, Nat.reduceSub, Nat.reduceMul, Nat.reduceBEq, Nat.reduceLT, Nat.reduceLeDiff, Nat.reduceEqDiff, Int.reduceToNat, Int.reduceLE, Int.reduceLT, Int.reduceAdd, Int.reduceSub, Int.reduceNeg, Int.reduceBEq, Int.reduceBNe, Nat.reduceBNe, Nat.reduceDiv, Nat.reduceMod], by simp only [go_sem, Nat.reduceAdd, Nat.reduceSub, Nat.reduceMul, Nat.reduceBEq, Nat.reduceLT, Nat.reduceLeDiff, Nat.reduceEqDiff, Int.reduceToNat, Int.reduceLE, Int.reduceLT, Int.reduceAdd, Int.reduceSub, Int.reduceNeg, Int.reduceBEq, Int.reduceBNe, Nat.reduceBNe, Nat.reduceDiv, Nat.reduceMod], ?_⟩, g + 1, rfl⟩
      · simp only [go_sem, Nat.reduceAdd, Nat.reduceSub, Nat.reduceMul, Nat.reduceBEq, Nat.reduceLT, Nat.reduceLeDiff, Nat.reduceEqDiff, Int.reduceToNat, Int.reduceLE, Int.reduceLT, Int.reduceAdd, Int.reduceSub, Int.reduceNeg, Int.reduceBEq, Int.reduceBNe, Nat.reduceBNe, Nat.reduceDiv, Nat.reduceMod, hwr, lenAt, e5, List.length_append]
      · simp only [go_sem, Nat.reduceAdd, Nat.reduceSub, Nat.reduceMul, Nat.reduceBEq, Nat.reduceLT, Nat.reduceLeDiff, Nat.reduceEqDiff, Int.reduceToNat, Int.reduceLE, Int.reduceLT, Int.reduceAdd, Int.reduceSub, Int.reduceNeg, Int.reduceBEq, Int.reduceBNe, Nat.reduceBNe, Nat.reduceDiv, Nat.reduceMod, e5, List.length_append]
        intro i hi
        by_cases h : i < (spAt lv l k).length
        · simp [h, List.getElem?_append_left h]
        · have : i = (spAt lv l k).length := by omega
          subst this
          simp
    · have e5 : spAt lv l (k + 1) = (spAt lv l k).set ((spAt lv l k).length - 1) { (spAt lv l k).getD ((spAt lv l k).length - 1) default with to := (l.getD k default).at_, lst := k, opn := false } := by simp only [spAt, spStep]; rw [if_neg (by omega), if_pos (by omega)]
      have hpos := spAt_pos lv l k (by omega)
      have e6 : IntKind.i64.wrap (((spAt lv l k).length : Int) - 1) = (((spAt lv l k).length - 1 : Nat) : Int) := by rw [wrap64 (by omega) (by omega)]; omega
      have e7 : (spAt lv l k).length - 1 < (spAt lv l k).length := by omega
      simp only [go_sem, Nat.reduceAdd, Nat.reduceSub, Nat.reduceMul, Nat.reduceBEq, Nat.reduceLT, Nat.reduceLeDiff, Nat.reduceEqDiff, Int.reduceToNat, Int.reduceLE, Int.reduceLT, Int.reduceAdd, Int.reduceSub, Int.reduceNeg, Int.reduceBEq, Int.reduceBNe, Nat.reduceBNe, Nat.reduceDiv, Nat.reduceMod, bnz hn, dnp hm, dp hn, bz hm, e6, e7]
      refine ⟨hk1, _, Weak.to 1 ⟨?_, by simp only [go_sem, Nat.reduceAdd, Nat.reduceSub, Nat.reduceMul, Nat.reduceBEq, Nat.reduceLT, Nat.reduceLeDiff, Nat.reduceEqDiff, Int.reduceToNat, Int.reduceLE, Int.reduceLT, Int.reduceAdd, Int.reduceSub, Int.reduceNeg, Int.reduceBEq, Int.reduceBNe, Nat.reduceBNe, Nat.reduceDiv, Nat.reduceMod], by simp only [go_sem, Nat.reduceAdd, Nat.reduceSub, Nat.reduceMul, Nat.reduceBEq, Nat.reduceLT, Nat.reduceLeDiff, Nat.reduceEqDiff, Int.reduceToNat, Int.reduceLE, Int.reduceLT, Int.reduceAdd, Int.reduceSub, Int.reduceNeg, Int.reduceBEq, Int.reduceBNe, Nat.reduceBNe, Nat.reduceDiv, Nat.reduceMod], ?_⟩, g, rfl⟩
      · simp only [go_sem, Nat.reduceAdd, Nat.reduceSub, Nat.reduceMul, Nat.reduceBEq, Nat.reduceLT, Nat.reduceLeDiff, Nat.reduceEqDiff, Int.reduceToNat, Int.reduceLE, Int.reduceLT, Int.reduceAdd, Int.reduceSub, Int.reduceNeg, Int.reduceBEq, Int.reduceBNe, Nat.reduceBNe, Nat.reduceDiv, Nat.reduceMod, hwr, lenAt, e5, List.length_set]
      · simp only [go_sem, Nat.reduceAdd, Nat.reduceSub, Nat.reduceMul, Nat.reduceBEq, Nat.reduceLT, Nat.reduceLeDiff, Nat.reduceEqDiff, Int.reduceToNat, Int.reduceLE, Int.reduceLT, Int.reduceAdd, Int.reduceSub, Int.reduceNeg, Int.reduceBEq, Int.reduceBNe, Nat.reduceBNe, Nat.reduceDiv, Nat.reduceMod, e5, List.length_set]
        intro i hi
        by_cases h : i = (spAt lv l k).length - 1
        · subst h; simp [e7]
        · simp [h, beq_eq_false_iff_ne.2 h, List.getElem?_set_ne (Ne.symm h)]
    · have e5 : spAt lv l (k + 1) = spAt lv l k := by simp only [spAt, spStep]; rw [if_neg (by omega), if_neg (by omega)]
      simp only [go_sem, Nat.reduceAdd, Nat.reduceSub, Nat.reduceMul, Nat.reduceBEq, Nat.reduceLT, Nat.reduceLeDiff, Nat.reduceEqDiff, Int.reduceToNat, Int.reduceLE, Int.reduceLT, Int.reduceAdd, Int.reduceSub, Int.reduceNeg, Int.reduceBEq, Int.reduceBNe, Nat.reduceBNe, Nat.reduceDiv, Nat.reduceMod, bnz hn, dp hm, dp hn, bnz hm]
      exact ⟨hk1, _, Weak.to 1 (by simp only [go_sem, Nat.reduceAdd, Nat.reduceSub, Nat.reduceMul, Nat.reduceBEq, Nat.reduceLT, Nat.reduceLeDiff, Nat.reduceEqDiff, Int.reduceToNat, Int.reduceLE, Int.reduceLT, Int.reduceAdd, Int.reduceSub, Int.reduceNeg, Int.reduceBEq, Int.reduceBNe, Nat.reduceBNe, Nat.reduceDiv, Nat.reduceMod, hwr, lenAt, e5]), g, rfl⟩
  · have hk1 : k = l.length := by simp at h; omega
    simp only [go_sem, Nat.reduceAdd, Nat.reduceSub, Nat.reduceMul, Nat.reduceBEq, Nat.reduceLT, Nat.reduceLeDiff, Nat.reduceEqDiff, Int.reduceToNat, Int.reduceLE, Int.reduceLT, Int.reduceAdd, Int.reduceSub, Int.reduceNeg, Int.reduceBEq, Int.reduceBNe, Nat.reduceBNe, Nat.reduceDiv, Nat.reduceMod]
    refine kont_of_hx cx_ok hb 200 ?_
    simp only [go_sem, Nat.reduceAdd, Nat.reduceSub, Nat.reduceMul, Nat.reduceBEq, Nat.reduceLT, Nat.reduceLeDiff, Nat.reduceEqDiff, Int.reduceToNat, Int.reduceLE, Int.reduceLT, Int.reduceAdd, Int.reduceSub, Int.reduceNeg, Int.reduceBEq, Int.reduceBNe, Nat.reduceBNe, Nat.reduceDiv, Nat.reduceMod]
    subst hk1
    exact ⟨g, rfl, rfl⟩

end Go.Fg.X.SP
