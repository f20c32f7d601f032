/- Walks of the functions that the statement reaches. No conditions: contracts and laws. -/
import Derived.Test.YtoenkapnfbcjeaaXKL
namespace Go.Fg.X
open Go.Proofs Go.Fg
set_option maxRecDepth 100000
set_option maxHeartbeats 4000000
set_option linter.unusedSimpArgs false
set_option linter.unusedVariables false
def buE (m : Nat) (L : List Cm) : Int := if m < 1 ∨ 4294967295 < m then 1 else if badF L = true then 27 else if 1099511627776 < (buF m L).sum then 28 else 0
def buV (m : Nat) (L : List Cm) : Nat := if buE m L = 0 then cdiv (buF m L).most 65536 else 0
theorem burst_ok (m : Nat) (cls : Int) (l : List Ev) (hm : m < 18446744073709551616) (hl : l.length < 2147483648) (ho : ∀ e ∈ l, e.Ok) :
    AFn Try.prog 23 [u64 m, evs l, dint cls] (Ret (.tup [u64 (buV m (cmAt cls l l.length)), dint (buE m (cmAt cls l l.length))])) := by
  have hbu := buAt_ok (m := m) (cls := cls) ho l.length
  obtain ⟨L, hL⟩ : ∃ L, L = cmAt cls l l.length := ⟨_, rfl⟩
  have hE := each_ok m cls l hm hl ho
  rw [← hL] at hbu hE ⊢
  refine AFn_hxk 0 cx_ok 200 Try.func23 rfl Try.ntmps23 Try.results23 rfl fun base w hb => ?_
  simp only [go_sem, Nat.reduceAdd, Nat.reduceSub, Nat.reduceMul, Nat.reduceBEq, Nat.reduceLT, Nat.reduceLeDiff, Nat.reduceEqDiff, Int.reduceToNat, Int.reduceLE, Int.reduceLT, Int.reduceAdd, Int.reduceSub, Int.reduceNeg, Int.reduceBEq, Int.reduceBNe, Nat.reduceBNe, Nat.reduceDiv, Nat.reduceMod]
  by_cases h1 : m < 1
  · have f1 : decide ((m : Int) < 1) = true := by simp; omega
    have f2 : buE m L = 1 := if_pos (.inl h1)
    have f4 : buV m L = 0 := by unfold buV; rw [f2]; rfl
    simp only [go_sem, Nat.reduceAdd, Nat.reduceSub, Nat.reduceMul, Nat.reduceBEq, Nat.reduceLT, Nat.reduceLeDiff, Nat.reduceEqDiff, Int.reduceToNat, Int.reduceLE, Int.reduceLT, Int.reduceAdd, Int.reduceSub, Int.reduceNeg, Int.reduceBEq, Int.reduceBNe, Nat.reduceBNe, Nat.reduceDiv, Nat.reduceMod, f1, f2, f4]
  have f1 : decide ((m : Int) < 1) = false := by simp; omega
  by_cases h2 : 4294967295 < m
  · have f3 : decide (4294967295 < (m : Int)) = true := by simp; omega
    have f2 : buE m L = 1 := if_pos (.inr h2)
    have f4 : buV m L = 0 := by unfold buV; rw [f2]; rfl
    simp only [go_sem, Nat.reduceAdd, Nat.reduceSub, Nat.reduceMul, Nat.reduceBEq, Nat.reduceLT, Nat.reduceLeDiff, Nat.reduceEqDiff, Int.reduceToNat, Int.reduceLE, Int.reduceLT, Int.reduceAdd, Int.reduceSub, Int.reduceNeg, Int.reduceBEq, Int.reduceBNe, Nat.reduceBNe, Nat.reduceDiv, Nat.reduceMod, f1, f3, f2, f4]
  have f3 : decide (4294967295 < (m : Int)) = false := by simp; omega
  have f2 : buE m L = if badF L = true then 27 else if 1099511627776 < (buF m L).sum then 28 else 0 := if_neg (by omega)
  simp only [go_sem, Nat.reduceAdd, Nat.reduceSub, Nat.reduceMul, Nat.reduceBEq, Nat.reduceLT, Nat.reduceLeDiff, Nat.reduceEqDiff, Int.reduceToNat, Int.reduceLE, Int.reduceLT, Int.reduceAdd, Int.reduceSub, Int.reduceNeg, Int.reduceBEq, Int.reduceBNe, Nat.reduceBNe, Nat.reduceDiv, Nat.reduceMod, f1, f3]
  refine kont_callM hb [0, 1, 2, 3, 4] fn68 rfl ?_ hE rfl fun d h hR => ?_
  · simp only [go_sem, Nat.reduceAdd, Nat.reduceSub, Nat.reduceMul, Nat.reduceBEq, Nat.reduceLT, Nat.reduceLeDiff, Nat.reduceEqDiff, Int.reduceToNat, Int.reduceLE, Int.reduceLT, Int.reduceAdd, Int.reduceSub, Int.reduceNeg, Int.reduceBEq, Int.reduceBNe, Nat.reduceBNe, Nat.reduceDiv, Nat.reduceMod]
  obtain ⟨⟨s, rfl, hs⟩, rfl⟩ := hR
  simp only [go_sem, Nat.reduceAdd, Nat.reduceSub, Nat.reduceMul, Nat.reduceBEq, Nat.reduceLT, Nat.reduceLeDiff, Nat.reduceEqDiff, Int.reduceToNat, Int.reduceLE, Int.reduceLT, Int.reduceAdd, Int.reduceSub, Int.reduceNeg, Int.reduceBEq, Int.reduceBNe, Nat.reduceBNe, Nat.reduceDiv, Nat.reduceMod]
  refine kont_of_hx cx_ok hb 200 ?_
  simp only [go_sem, Nat.reduceAdd, Nat.reduceSub, Nat.reduceMul, Nat.reduceBEq, Nat.reduceLT, Nat.reduceLeDiff, Nat.reduceEqDiff, Int.reduceToNat, Int.reduceLE, Int.reduceLT, Int.reduceAdd, Int.reduceSub, Int.reduceNeg, Int.reduceBEq, Int.reduceBNe, Nat.reduceBNe, Nat.reduceDiv, Nat.reduceMod]
  cases hbad : badF L
  · obtain rfl := hs hbad
    rw [hbad] at f2
    simp only [Bool.false_eq_true, if_false] at f2
    simp only [go_sem, Nat.reduceAdd, Nat.reduceSub, Nat.reduceMul, Nat.reduceBEq, Nat.reduceLT, Nat.reduceLeDiff, Nat.reduceEqDiff, Int.reduceToNat, Int.reduceLE, Int.reduceLT, Int.reduceAdd, Int.reduceSub, Int.reduceNeg, Int.reduceBEq, Int.reduceBNe, Nat.reduceBNe, Nat.reduceDiv, Nat.reduceMod, Bool.false_eq_true, if_false]
    by_cases h3 : 1099511627776 < (buF m L).sum
    · have g1 : decide ((1099511627776 : Int) < ((buF m L).sum : Int)) = true := by simp; omega
      rw [if_pos h3] at f2
      have f4 : buV m L = 0 := by unfold buV; rw [f2]; rfl
      simp only [go_sem, Nat.reduceAdd, Nat.reduceSub, Nat.reduceMul, Nat.reduceBEq, Nat.reduceLT, Nat.reduceLeDiff, Nat.reduceEqDiff, Int.reduceToNat, Int.reduceLE, Int.reduceLT, Int.reduceAdd, Int.reduceSub, Int.reduceNeg, Int.reduceBEq, Int.reduceBNe, Nat.reduceBNe, Nat.reduceDiv, Nat.reduceMod, g1, f2, f4]
    · have g1 : decide ((1099511627776 : Int) < ((buF m L).sum : Int)) = false := by simp; omega
      rw [if_neg h3] at f2
      have f4 : buV m L = cdiv (buF m L).most 65536 := by unfold buV; rw [f2]; rfl
      have hmo : (buF m L).most < 2 ^ 127 := Nat.lt_of_le_of_lt hbu.most (by omega)
      have hq : cdiv (buF m L).most 65536 < 18446744073709551616 := by
        have h5 := bu_sum_all m L
        have h6 : totB L ≤ 1099511627776 := by rw [h5] at h3; unfold capB at h3; omega
        have := most_all m L hbad h6
        unfold cdiv; omega
      simp only [go_sem, Nat.reduceAdd, Nat.reduceSub, Nat.reduceMul, Nat.reduceBEq, Nat.reduceLT, Nat.reduceLeDiff, Nat.reduceEqDiff, Int.reduceToNat, Int.reduceLE, Int.reduceLT, Int.reduceAdd, Int.reduceSub, Int.reduceNeg, Int.reduceBEq, Int.reduceBNe, Nat.reduceBNe, Nat.reduceDiv, Nat.reduceMod, g1, f2, f4]
      refine kont_call hb fn74 rfl ?_ (rceil_ok (buF m L).most 65536 hmo (by decide) (by decide) hq) (Ret.flat rfl) rfl fun d h hR => ?_
      · simp only [go_sem, Nat.reduceAdd, Nat.reduceSub, Nat.reduceMul, Nat.reduceBEq, Nat.reduceLT, Nat.reduceLeDiff, Nat.reduceEqDiff, Int.reduceToNat, Int.reduceLE, Int.reduceLT, Int.reduceAdd, Int.reduceSub, Int.reduceNeg, Int.reduceBEq, Int.reduceBNe, Nat.reduceBNe, Nat.reduceDiv, Nat.reduceMod, c65w]
      obtain ⟨rfl, rfl⟩ := hR
      refine kont_of_hx cx_ok hb 200 ?_
      simp only [go_sem, Nat.reduceAdd, Nat.reduceSub, Nat.reduceMul, Nat.reduceBEq, Nat.reduceLT, Nat.reduceLeDiff, Nat.reduceEqDiff, Int.reduceToNat, Int.reduceLE, Int.reduceLT, Int.reduceAdd, Int.reduceSub, Int.reduceNeg, Int.reduceBEq, Int.reduceBNe, Nat.reduceBNe, Nat.reduceDiv, Nat.reduceMod, c65w]
  · rw [hbad, if_pos rfl] at f2
    have f4 : buV m L = 0 := by unfold buV; rw [f2]; rfl
    simp only [go_sem, Nat.reduceAdd, Nat.reduceSub, Nat.reduceMul, Nat.reduceBEq, Nat.reduceLT, Nat.reduceLeDiff, Nat.reduceEqDiff, Int.reduceToNat, Int.reduceLE, Int.reduceLT, Int.reduceAdd, Int.reduceSub, Int.reduceNeg, Int.reduceBEq, Int.reduceBNe, Nat.reduceBNe, Nat.reduceDiv, Nat.reduceMod, if_true, f2, f4]
theorem conforms_ok (m q : Nat) (cls : Int) (l : List Ev) (hm : m < 18446744073709551616) (hl : l.length < 2147483648) (ho : ∀ e ∈ l, e.Ok) :
    AFn Try.prog 24 [u64 m, u64 q, evs l, dint cls] (Ret (dbool (buE m (cmAt cls l l.length) == 0 && decide (buV m (cmAt cls l l.length) ≤ q)))) := by
  refine AFn_hxk 0 cx_ok 200 Try.func24 rfl Try.ntmps24 Try.results24 rfl fun base w hb => ?_
  simp only [go_sem, Nat.reduceAdd, Nat.reduceSub, Nat.reduceMul, Nat.reduceBEq, Nat.reduceLT, Nat.reduceLeDiff, Nat.reduceEqDiff, Int.reduceToNat, Int.reduceLE, Int.reduceLT, Int.reduceAdd, Int.reduceSub, Int.reduceNeg, Int.reduceBEq, Int.reduceBNe, Nat.reduceBNe, Nat.reduceDiv, Nat.reduceMod]
  refine kont_call hb fn23 rfl ?_ (burst_ok m cls l hm hl ho) (Ret.flat rfl) rfl fun d h hR => ?_
  · simp only [go_sem, Nat.reduceAdd, Nat.reduceSub, Nat.reduceMul, Nat.reduceBEq, Nat.reduceLT, Nat.reduceLeDiff, Nat.reduceEqDiff, Int.reduceToNat, Int.reduceLE, Int.reduceLT, Int.reduceAdd, Int.reduceSub, Int.reduceNeg, Int.reduceBEq, Int.reduceBNe, Nat.reduceBNe, Nat.reduceDiv, Nat.reduceMod]
  obtain ⟨rfl, rfl⟩ := hR
  refine kont_of_hx cx_ok hb 200 ?_
  simp only [go_sem, Nat.reduceAdd, Nat.reduceSub, Nat.reduceMul, Nat.reduceBEq, Nat.reduceLT, Nat.reduceLeDiff, Nat.reduceEqDiff, Int.reduceToNat, Int.reduceLE, Int.reduceLT, Int.reduceAdd, Int.reduceSub, Int.reduceNeg, Int.reduceBEq, Int.reduceBNe, Nat.reduceBNe, Nat.reduceDiv, Nat.reduceMod]
  cases h : (buE m (cmAt cls l l.length) == 0)
  · simp only [go_sem, Nat.reduceAdd, Nat.reduceSub, Nat.reduceMul, Nat.reduceBEq, Nat.reduceLT, Nat.reduceLeDiff, Nat.reduceEqDiff, Int.reduceToNat, Int.reduceLE, Int.reduceLT, Int.reduceAdd, Int.reduceSub, Int.reduceNeg, Int.reduceBEq, Int.reduceBNe, Nat.reduceBNe, Nat.reduceDiv, Nat.reduceMod, h]
  · simp only [go_sem, Nat.reduceAdd, Nat.reduceSub, Nat.reduceMul, Nat.reduceBEq, Nat.reduceLT, Nat.reduceLeDiff, Nat.reduceEqDiff, Int.reduceToNat, Int.reduceLE, Int.reduceLT, Int.reduceAdd, Int.reduceSub, Int.reduceNeg, Int.reduceBEq, Int.reduceBNe, Nat.reduceBNe, Nat.reduceDiv, Nat.reduceMod, h]
@[go_sem] def Cm.cells (c : Cm) : List D := [u64 c.t, u64 c.b]
def Cm.rows (l : List Cm) : Nat → List D := fun i => (l.getD i default).cells
@[go_sem] theorem Cm.rows_at (l : List Cm) (i : Nat) : Cm.rows l i = (l.getD i default).cells := rfl
@[go_sem] def cms (l : List Cm) : D := .imm 2 l.length (Cm.rows l)
theorem rcame_ok (l : List Ev) (cls : Int) (hl : l.length < 2147483648) (ho : ∀ e ∈ l, e.Ok) : AFn Try.prog 25 [evs l, dint cls] (Ret (cms (cmAt cls l l.length))) := by
  refine AFn_hxk 0 cx_ok 200 Try.func25 rfl Try.ntmps25 Try.results25 rfl fun base w hb => ?_
  simp only [go_sem, Nat.reduceAdd, Nat.reduceSub, Nat.reduceMul, Nat.reduceBEq, Nat.reduceLT, Nat.reduceLeDiff, Nat.reduceEqDiff, Int.reduceToNat, Int.reduceLE, Int.reduceLT, Int.reduceAdd, Int.reduceSub, Int.reduceNeg, Int.reduceBEq, Int.reduceBNe, Nat.reduceBNe, Nat.reduceDiv, Nat.reduceMod]
  refine kont_weak_code (Weak.phantom 5 2 (Cm.rows []) rfl) ?_
  simp only [go_sem, Nat.reduceAdd, Nat.reduceSub, Nat.reduceMul, Nat.reduceBEq, Nat.reduceLT, Nat.reduceLeDiff, Nat.reduceEqDiff, Int.reduceToNat, Int.reduceLE, Int.reduceLT, Int.reduceAdd, Int.reduceSub, Int.reduceNeg, Int.reduceBEq, Int.reduceBNe, Nat.reduceBNe, Nat.reduceDiv, Nat.reduceMod]
  refine kont_forF (G := Nat) [1, 9, 10] (fun k => True) (fun k γ => [(5, .ref 0 (cmAt cls l k).length 0 (cmAt cls l k).length), (11, dint k)]) (fun k γ => [⟨.arr, (cmAt cls l k).length, 2, (cmAt cls l k).length, Cm.rows (cmAt cls l k)⟩]) (l.length) (0) rfl (Weak.to 1 (by (simp only [go_sem, Nat.reduceAdd, Nat.reduceSub, Nat.reduceMul, Nat.reduceBEq, Nat.reduceLT, Nat.reduceLeDiff, Nat.reduceEqDiff, Int.reduceToNat, Int.reduceLE, Int.reduceLT, Int.reduceAdd, Int.reduceSub, Int.reduceNeg, Int.reduceBEq, Int.reduceBNe, Nat.reduceBNe, Nat.reduceDiv, Nat.reduceMod, cmAt]) <;> simp)) trivial ?_
  intro k γ hk _
  refine kont_of_hx cx_ok hb 200 ?_
  simp only [go_sem, Nat.reduceAdd, Nat.reduceSub, Nat.reduceMul, Nat.reduceBEq, Nat.reduceLT, Nat.reduceLeDiff, Nat.reduceEqDiff, Int.reduceToNat, Int.reduceLE, Int.reduceLT, Int.reduceAdd, Int.reduceSub, Int.reduceNeg, Int.reduceBEq, Int.reduceBNe, Nat.reduceBNe, Nat.reduceDiv, Nat.reduceMod]
  have hwr := wrap_succ (show k < 4611686018427387904 by omega)
  have hlen := cmAt_len cls l k
  first | refine hite_lt hk (fun hk1 => ?_) (fun hk1 => ?_) | refine hite_ltI hk (fun hk1 => ?_) (fun hk1 => ?_)
  · have hok := getD_ok ho k
    have e5 : cmAt cls l (k + 1) = if (l.getD k default).goes cls = true then cmAt cls l k ++ [cmOf (l.getD k default)] else cmAt cls l k := rfl
    have t1 := tN_eq hok
    have t2 := bN_eq hok
    have t4 := wf_i64 hok.2.2.2.2.2.1
    generalize hee : l.getD k default = e at *
    generalize hL : cmAt cls l k = L at *
    simp only [go_sem, Nat.reduceAdd, Nat.reduceSub, Nat.reduceMul, Nat.reduceBEq, Nat.reduceLT, Nat.reduceLeDiff, Nat.reduceEqDiff, Int.reduceToNat, Int.reduceLE, Int.reduceLT, Int.reduceAdd, Int.reduceSub, Int.reduceNeg, Int.reduceBEq, Int.reduceBNe, Nat.reduceBNe, Nat.reduceDiv, Nat.reduceMod, hk1, hee]
    cases hg : e.goes cls
    · have e6 : cmAt cls l (k + 1) = L := by rw [e5, hg]; rfl
      cases hi : e.inn
      · simp only [go_sem, Nat.reduceAdd, Nat.reduceSub, Nat.reduceMul, Nat.reduceBEq, Nat.reduceLT, Nat.reduceLeDiff, Nat.reduceEqDiff, Int.reduceToNat, Int.reduceLE, Int.reduceLT, Int.reduceAdd, Int.reduceSub, Int.reduceNeg, Int.reduceBEq, Int.reduceBNe, Nat.reduceBNe, Nat.reduceDiv, Nat.reduceMod, hi]
        repeat (refine And.intro (by first | assumption | omega) ?_)
        refine ⟨_, Weak.to 1 (by (simp only [go_sem, Nat.reduceAdd, Nat.reduceSub, Nat.reduceMul, Nat.reduceBEq, Nat.reduceLT, Nat.reduceLeDiff, Nat.reduceEqDiff, Int.reduceToNat, Int.reduceLE, Int.reduceLT, Int.reduceAdd, Int.reduceSub, Int.reduceNeg, Int.reduceBEq, Int.reduceBNe, Nat.reduceBNe, Nat.reduceDiv, Nat.reduceMod, hwr, e6]) <;> simp), ForS.mk (γ) (trivial)⟩
      · have hcl : (e.cls == cls) = false := by simpa [Ev.goes, hi] using hg
        simp only [go_sem, Nat.reduceAdd, Nat.reduceSub, Nat.reduceMul, Nat.reduceBEq, Nat.reduceLT, Nat.reduceLeDiff, Nat.reduceEqDiff, Int.reduceToNat, Int.reduceLE, Int.reduceLT, Int.reduceAdd, Int.reduceSub, Int.reduceNeg, Int.reduceBEq, Int.reduceBNe, Nat.reduceBNe, Nat.reduceDiv, Nat.reduceMod, hi, hcl]
        repeat (refine And.intro (by first | assumption | omega) ?_)
        refine ⟨_, Weak.to 1 (by (simp only [go_sem, Nat.reduceAdd, Nat.reduceSub, Nat.reduceMul, Nat.reduceBEq, Nat.reduceLT, Nat.reduceLeDiff, Nat.reduceEqDiff, Int.reduceToNat, Int.reduceLE, Int.reduceLT, Int.reduceAdd, Int.reduceSub, Int.reduceNeg, Int.reduceBEq, Int.reduceBNe, Nat.reduceBNe, Nat.reduceDiv, Nat.reduceMod, hwr, e6]) <;> simp), ForS.mk (γ) (trivial)⟩
    · have e6 : cmAt cls l (k + 1) = L ++ [cmOf e] := by rw [e5, hg]; rfl
      have hh : e.inn = true ∧ e.cls = cls := by simpa [Ev.goes] using hg
      have hcl : (e.cls == cls) = true := by simp [hh.2]
      have hlen' : (L ++ [cmOf e]).length = L.length + 1 := by simp
      have hpos : decide (0 < e.len) = true ∧ IntKind.u64.wrap e.len = ((e.bN : Nat) : Int) ∨ decide (0 < e.len) = false ∧ e.bN = 0 := by
        by_cases hp : 0 < e.len
        · refine .inl ⟨by simpa using hp, ?_⟩
          rw [IntKind.wrap_u64]; show _ = ((e.len.toNat : Nat) : Int); omega
        · exact .inr ⟨by simpa using hp, by show e.len.toNat = 0; omega⟩
      rcases hpos with ⟨hp, hw⟩ | ⟨hp, hw⟩
      · simp only [go_sem, Nat.reduceAdd, Nat.reduceSub, Nat.reduceMul, Nat.reduceBEq, Nat.reduceLT, Nat.reduceLeDiff, Nat.reduceEqDiff, Int.reduceToNat, Int.reduceLE, Int.reduceLT, Int.reduceAdd, Int.reduceSub, Int.reduceNeg, Int.reduceBEq, Int.reduceBNe, Nat.reduceBNe, Nat.reduceDiv, Nat.reduceMod, hh.1, hcl, hp, hw, t1]
        repeat (refine And.intro (by first | assumption | omega) ?_)
        refine ⟨_, Weak.to 1 ⟨?_, ?_, ?_, ?_⟩, ForS.mk γ trivial⟩
        · simp only [go_sem, Nat.reduceAdd, Nat.reduceSub, Nat.reduceMul, Nat.reduceBEq, Nat.reduceLT, Nat.reduceLeDiff, Nat.reduceEqDiff, Int.reduceToNat, Int.reduceLE, Int.reduceLT, Int.reduceAdd, Int.reduceSub, Int.reduceNeg, Int.reduceBEq, Int.reduceBNe, Nat.reduceBNe, Nat.reduceDiv, Nat.reduceMod, hwr, e6, List.length_append]
        · simp only [go_sem, Nat.reduceAdd, Nat.reduceSub, Nat.reduceMul, Nat.reduceBEq, Nat.reduceLT, Nat.reduceLeDiff, Nat.reduceEqDiff, Int.reduceToNat, Int.reduceLE, Int.reduceLT, Int.reduceAdd, Int.reduceSub, Int.reduceNeg, Int.reduceBEq, Int.reduceBNe, Nat.reduceBNe, Nat.reduceDiv, Nat.reduceMod]
        · simp only [go_sem, Nat.reduceAdd, Nat.reduceSub, Nat.reduceMul, Nat.reduceBEq, Nat.reduceLT, Nat.reduceLeDiff, Nat.reduceEqDiff, Int.reduceToNat, Int.reduceLE, Int.reduceLT, Int.reduceAdd, Int.reduceSub, Int.reduceNeg, Int.reduceBEq, Int.reduceBNe, Nat.reduceBNe, Nat.reduceDiv, Nat.reduceMod]
        · simp only [go_sem, Nat.reduceAdd, Nat.reduceSub, Nat.reduceMul, Nat.reduceBEq, Nat.reduceLT, Nat.reduceLeDiff, Nat.reduceEqDiff, Int.reduceToNat, Int.reduceLE, Int.reduceLT, Int.reduceAdd, Int.reduceSub, Int.reduceNeg, Int.reduceBEq, Int.reduceBNe, Nat.reduceBNe, Nat.reduceDiv, Nat.reduceMod, e6, List.length_append]
          intro i hi
          rw [getD_app _ _ _ _ hi]
          cases decide (i < L.length) <;> rfl
      · simp only [go_sem, Nat.reduceAdd, Nat.reduceSub, Nat.reduceMul, Nat.reduceBEq, Nat.reduceLT, Nat.reduceLeDiff, Nat.reduceEqDiff, Int.reduceToNat, Int.reduceLE, Int.reduceLT, Int.reduceAdd, Int.reduceSub, Int.reduceNeg, Int.reduceBEq, Int.reduceBNe, Nat.reduceBNe, Nat.reduceDiv, Nat.reduceMod, hh.1, hcl, hp, hw, t1]
        repeat (refine And.intro (by first | assumption | omega) ?_)
        refine ⟨_, Weak.to 1 ⟨?_, ?_, ?_, ?_⟩, ForS.mk γ trivial⟩
        · simp only [go_sem, Nat.reduceAdd, Nat.reduceSub, Nat.reduceMul, Nat.reduceBEq, Nat.reduceLT, Nat.reduceLeDiff, Nat.reduceEqDiff, Int.reduceToNat, Int.reduceLE, Int.reduceLT, Int.reduceAdd, Int.reduceSub, Int.reduceNeg, Int.reduceBEq, Int.reduceBNe, Nat.reduceBNe, Nat.reduceDiv, Nat.reduceMod, hwr, e6, List.length_append]
        · simp only [go_sem, Nat.reduceAdd, Nat.reduceSub, Nat.reduceMul, Nat.reduceBEq, Nat.reduceLT, Nat.reduceLeDiff, Nat.reduceEqDiff, Int.reduceToNat, Int.reduceLE, Int.reduceLT, Int.reduceAdd, Int.reduceSub, Int.reduceNeg, Int.reduceBEq, Int.reduceBNe, Nat.reduceBNe, Nat.reduceDiv, Nat.reduceMod]
        · simp only [go_sem, Nat.reduceAdd, Nat.reduceSub, Nat.reduceMul, Nat.reduceBEq, Nat.reduceLT, Nat.reduceLeDiff, Nat.reduceEqDiff, Int.reduceToNat, Int.reduceLE, Int.reduceLT, Int.reduceAdd, Int.reduceSub, Int.reduceNeg, Int.reduceBEq, Int.reduceBNe, Nat.reduceBNe, Nat.reduceDiv, Nat.reduceMod]
        · simp only [go_sem, Nat.reduceAdd, Nat.reduceSub, Nat.reduceMul, Nat.reduceBEq, Nat.reduceLT, Nat.reduceLeDiff, Nat.reduceEqDiff, Int.reduceToNat, Int.reduceLE, Int.reduceLT, Int.reduceAdd, Int.reduceSub, Int.reduceNeg, Int.reduceBEq, Int.reduceBNe, Nat.reduceBNe, Nat.reduceDiv, Nat.reduceMod, e6, List.length_append]
          intro i hi
          rw [getD_app _ _ _ _ hi]
          cases decide (i < L.length)
          · simp only [cond_false, Cm.cells, cmOf, hw, u64, ci0]
          · rfl
  · simp only [go_sem, Nat.reduceAdd, Nat.reduceSub, Nat.reduceMul, Nat.reduceBEq, Nat.reduceLT, Nat.reduceLeDiff, Nat.reduceEqDiff, Int.reduceToNat, Int.reduceLE, Int.reduceLT, Int.reduceAdd, Int.reduceSub, Int.reduceNeg, Int.reduceBEq, Int.reduceBNe, Nat.reduceBNe, Nat.reduceDiv, Nat.reduceMod]
    subst hk1
    refine kont_weak_code (Weak.freeze rfl 0 rfl rfl (fun i hi => by simp only [go_sem, Nat.reduceAdd, Nat.reduceSub, Nat.reduceMul, Nat.reduceBEq, Nat.reduceLT, Nat.reduceLeDiff, Nat.reduceEqDiff, Int.reduceToNat, Int.reduceLE, Int.reduceLT, Int.reduceAdd, Int.reduceSub, Int.reduceNeg, Int.reduceBEq, Int.reduceBNe, Nat.reduceBNe, Nat.reduceDiv, Nat.reduceMod])) ?_
    simp only [go_sem, Nat.reduceAdd, Nat.reduceSub, Nat.reduceMul, Nat.reduceBEq, Nat.reduceLT, Nat.reduceLeDiff, Nat.reduceEqDiff, Int.reduceToNat, Int.reduceLE, Int.reduceLT, Int.reduceAdd, Int.reduceSub, Int.reduceNeg, Int.reduceBEq, Int.reduceBNe, Nat.reduceBNe, Nat.reduceDiv, Nat.reduceMod]
    refine kont_of_hx cx_ok hb 200 ?_
    simp only [go_sem, Nat.reduceAdd, Nat.reduceSub, Nat.reduceMul, Nat.reduceBEq, Nat.reduceLT, Nat.reduceLeDiff, Nat.reduceEqDiff, Int.reduceToNat, Int.reduceLE, Int.reduceLT, Int.reduceAdd, Int.reduceSub, Int.reduceNeg, Int.reduceBEq, Int.reduceBNe, Nat.reduceBNe, Nat.reduceDiv, Nat.reduceMod]
theorem more_ok (L : List Cm) (hL : L.length < 2147483648) (ho : ∀ c ∈ L, c.Ok) : AFn Try.prog 75 [cms L] (Ret (dbool (decide (1099511627776 < totB L)))) := by
  refine AFn_hxk 0 cx_ok 200 Try.func75 rfl Try.ntmps75 Try.results75 rfl fun base w hb => ?_
  simp only [go_sem, Nat.reduceAdd, Nat.reduceSub, Nat.reduceMul, Nat.reduceBEq, Nat.reduceLT, Nat.reduceLeDiff, Nat.reduceEqDiff, Int.reduceToNat, Int.reduceLE, Int.reduceLT, Int.reduceAdd, Int.reduceSub, Int.reduceNeg, Int.reduceBEq, Int.reduceBNe, Nat.reduceBNe, Nat.reduceDiv, Nat.reduceMod]
  refine kont_forF (G := Nat) [6, 7] (fun k => totB (L.take k) ≤ 1099511627776) (fun k γ => [(3, u64 (totB (L.take k))), (8, dint k)]) (fun k γ => []) (L.length) (0) rfl (Weak.to 0 (by (simp only [go_sem, Nat.reduceAdd, Nat.reduceSub, Nat.reduceMul, Nat.reduceBEq, Nat.reduceLT, Nat.reduceLeDiff, Nat.reduceEqDiff, Int.reduceToNat, Int.reduceLE, Int.reduceLT, Int.reduceAdd, Int.reduceSub, Int.reduceNeg, Int.reduceBEq, Int.reduceBNe, Nat.reduceBNe, Nat.reduceDiv, Nat.reduceMod, totB]) <;> simp)) ?_ ?_
  · exact Nat.zero_le _
  intro k γ hk hS
  refine kont_of_hx cx_ok hb 200 ?_
  simp only [go_sem, Nat.reduceAdd, Nat.reduceSub, Nat.reduceMul, Nat.reduceBEq, Nat.reduceLT, Nat.reduceLeDiff, Nat.reduceEqDiff, Int.reduceToNat, Int.reduceLE, Int.reduceLT, Int.reduceAdd, Int.reduceSub, Int.reduceNeg, Int.reduceBEq, Int.reduceBNe, Nat.reduceBNe, Nat.reduceDiv, Nat.reduceMod]
  have hwr := wrap_succ (show k < 4611686018427387904 by omega)
  first | refine hite_lt hk (fun hk1 => ?_) (fun hk1 => ?_) | refine hite_ltI hk (fun hk1 => ?_) (fun hk1 => ?_)
  · have e5 := take_snoc L k hk1
    have hc : (L.getD k default).Ok := by
      rw [List.getD_eq_getElem?_getD, List.getElem?_eq_getElem hk1]; exact ho _ (List.getElem_mem hk1)
    have e6 : totB (L.take (k + 1)) = totB (L.take k) + (L.getD k default).b := by rw [e5, totB_snoc]
    have hle := tot_le L (k + 1) hk1
    generalize hcc : L.getD k default = c at *
    generalize hs : totB (L.take k) = S at *
    have e7 : IntKind.u64.wrap (1099511627776 - (S : Int)) = ((1099511627776 - S : Nat) : Int) := by rw [IntKind.wrap_u64]; omega
    simp only [go_sem, Nat.reduceAdd, Nat.reduceSub, Nat.reduceMul, Nat.reduceBEq, Nat.reduceLT, Nat.reduceLeDiff, Nat.reduceEqDiff, Int.reduceToNat, Int.reduceLE, Int.reduceLT, Int.reduceAdd, Int.reduceSub, Int.reduceNeg, Int.reduceBEq, Int.reduceBNe, Nat.reduceBNe, Nat.reduceDiv, Nat.reduceMod, hk1, hcc, e7]
    by_cases hb1 : 1099511627776 - S < c.b
    · have g1 : decide (1099511627776 - S < c.b) = true := decide_eq_true hb1
      simp only [go_sem, Nat.reduceAdd, Nat.reduceSub, Nat.reduceMul, Nat.reduceBEq, Nat.reduceLT, Nat.reduceLeDiff, Nat.reduceEqDiff, Int.reduceToNat, Int.reduceLE, Int.reduceLT, Int.reduceAdd, Int.reduceSub, Int.reduceNeg, Int.reduceBEq, Int.reduceBNe, Nat.reduceBNe, Nat.reduceDiv, Nat.reduceMod, g1]
      rw [decide_eq_true (by omega)]
    · have g1 : decide (1099511627776 - S < c.b) = false := decide_eq_false hb1
      have e8 := wu_add' S c.b (by omega)
      simp only [go_sem, Nat.reduceAdd, Nat.reduceSub, Nat.reduceMul, Nat.reduceBEq, Nat.reduceLT, Nat.reduceLeDiff, Nat.reduceEqDiff, Int.reduceToNat, Int.reduceLE, Int.reduceLT, Int.reduceAdd, Int.reduceSub, Int.reduceNeg, Int.reduceBEq, Int.reduceBNe, Nat.reduceBNe, Nat.reduceDiv, Nat.reduceMod, g1, e8]
      repeat (refine And.intro (by first | assumption | omega) ?_)
      refine ⟨_, Weak.to 0 (by (simp only [go_sem, Nat.reduceAdd, Nat.reduceSub, Nat.reduceMul, Nat.reduceBEq, Nat.reduceLT, Nat.reduceLeDiff, Nat.reduceEqDiff, Int.reduceToNat, Int.reduceLE, Int.reduceLT, Int.reduceAdd, Int.reduceSub, Int.reduceNeg, Int.reduceBEq, Int.reduceBNe, Nat.reduceBNe, Nat.reduceDiv, Nat.reduceMod, hwr, e6]) <;> simp), ForS.mk (γ) (by rw [e6]; omega)⟩
  · simp only [go_sem, Nat.reduceAdd, Nat.reduceSub, Nat.reduceMul, Nat.reduceBEq, Nat.reduceLT, Nat.reduceLeDiff, Nat.reduceEqDiff, Int.reduceToNat, Int.reduceLE, Int.reduceLT, Int.reduceAdd, Int.reduceSub, Int.reduceNeg, Int.reduceBEq, Int.reduceBNe, Nat.reduceBNe, Nat.reduceDiv, Nat.reduceMod]
    subst hk1
    rw [List.take_length] at hS
    rw [decide_eq_false (by omega)]
    refine kont_of_hx cx_ok hb 200 ?_
    simp only [go_sem, Nat.reduceAdd, Nat.reduceSub, Nat.reduceMul, Nat.reduceBEq, Nat.reduceLT, Nat.reduceLeDiff, Nat.reduceEqDiff, Int.reduceToNat, Int.reduceLE, Int.reduceLT, Int.reduceAdd, Int.reduceSub, Int.reduceNeg, Int.reduceBEq, Int.reduceBNe, Nat.reduceBNe, Nat.reduceDiv, Nat.reduceMod]
def rwE (m : Nat) (L : List Cm) : Int := if m < 1 ∨ 4294967295 < m then 1 else if badF L = true then 27 else if 1099511627776 < totB L then 28 else 0
theorem wrong_ok (m : Nat) (L : List Cm) (hm : m < 18446744073709551616) (hL : L.length < 2147483648) (ho : ∀ c ∈ L, c.Ok) : AFn Try.prog 26 [u64 m, cms L] (Ret (dint (rwE m L))) := by
  refine AFn_hxk 0 cx_ok 200 Try.func26 rfl Try.ntmps26 Try.results26 rfl fun base w hb => ?_
  simp only [go_sem, Nat.reduceAdd, Nat.reduceSub, Nat.reduceMul, Nat.reduceBEq, Nat.reduceLT, Nat.reduceLeDiff, Nat.reduceEqDiff, Int.reduceToNat, Int.reduceLE, Int.reduceLT, Int.reduceAdd, Int.reduceSub, Int.reduceNeg, Int.reduceBEq, Int.reduceBNe, Nat.reduceBNe, Nat.reduceDiv, Nat.reduceMod]
  by_cases h1 : m < 1
  · have f1 : decide ((m : Int) < 1) = true := by simp; omega
    have f2 : rwE m L = 1 := if_pos (.inl h1)
    simp only [go_sem, Nat.reduceAdd, Nat.reduceSub, Nat.reduceMul, Nat.reduceBEq, Nat.reduceLT, Nat.reduceLeDiff, Nat.reduceEqDiff, Int.reduceToNat, Int.reduceLE, Int.reduceLT, Int.reduceAdd, Int.reduceSub, Int.reduceNeg, Int.reduceBEq, Int.reduceBNe, Nat.reduceBNe, Nat.reduceDiv, Nat.reduceMod, f1, f2]
  have f1 : decide ((m : Int) < 1) = false := by simp; omega
  by_cases h2 : 4294967295 < m
  · have f3 : decide (4294967295 < (m : Int)) = true := by simp; omega
    have f2 : rwE m L = 1 := if_pos (.inr h2)
    simp only [go_sem, Nat.reduceAdd, Nat.reduceSub, Nat.reduceMul, Nat.reduceBEq, Nat.reduceLT, Nat.reduceLeDiff, Nat.reduceEqDiff, Int.reduceToNat, Int.reduceLE, Int.reduceLT, Int.reduceAdd, Int.reduceSub, Int.reduceNeg, Int.reduceBEq, Int.reduceBNe, Nat.reduceBNe, Nat.reduceDiv, Nat.reduceMod, f1, f3, f2]
  have f3 : decide (4294967295 < (m : Int)) = false := by simp; omega
  have f2 : rwE m L = if badF L = true then 27 else if 1099511627776 < totB L then 28 else 0 := if_neg (by omega)
  simp only [go_sem, Nat.reduceAdd, Nat.reduceSub, Nat.reduceMul, Nat.reduceBEq, Nat.reduceLT, Nat.reduceLeDiff, Nat.reduceEqDiff, Int.reduceToNat, Int.reduceLE, Int.reduceLT, Int.reduceAdd, Int.reduceSub, Int.reduceNeg, Int.reduceBEq, Int.reduceBNe, Nat.reduceBNe, Nat.reduceDiv, Nat.reduceMod, f1, f3]
  refine kont_forF (G := Nat) [0, 1, 13, 14] (fun k => badF (L.take k) = false) (fun k γ => [(15, dint k)]) (fun k γ => []) (L.length) (0) rfl (Weak.to 0 (by (simp only [go_sem, Nat.reduceAdd, Nat.reduceSub, Nat.reduceMul, Nat.reduceBEq, Nat.reduceLT, Nat.reduceLeDiff, Nat.reduceEqDiff, Int.reduceToNat, Int.reduceLE, Int.reduceLT, Int.reduceAdd, Int.reduceSub, Int.reduceNeg, Int.reduceBEq, Int.reduceBNe, Nat.reduceBNe, Nat.reduceDiv, Nat.reduceMod]) <;> simp)) ?_ ?_
  · rfl
  intro k γ hk hno
  refine kont_of_hx cx_ok hb 200 ?_
  simp only [go_sem, Nat.reduceAdd, Nat.reduceSub, Nat.reduceMul, Nat.reduceBEq, Nat.reduceLT, Nat.reduceLeDiff, Nat.reduceEqDiff, Int.reduceToNat, Int.reduceLE, Int.reduceLT, Int.reduceAdd, Int.reduceSub, Int.reduceNeg, Int.reduceBEq, Int.reduceBNe, Nat.reduceBNe, Nat.reduceDiv, Nat.reduceMod]
  have hwr := wrap_succ (show k < 4611686018427387904 by omega)
  first | refine hite_lt hk (fun hk1 => ?_) (fun hk1 => ?_) | refine hite_ltI hk (fun hk1 => ?_) (fun hk1 => ?_)
  · have bad27 : badF (L.take (k + 1)) = true → rwE m L = 27 := fun hb => by
      have := bad_mono L (k + 1) (L.length - (k + 1)) (by omega) hb
      rw [show k + 1 + (L.length - (k + 1)) = L.length by omega, List.take_length] at this
      rw [f2, if_pos this]
    cases k with
    | zero =>
      have hno' : badF (L.take (0 + 1)) = false := by rw [take_snoc L 0 hk1, badF_snoc 0]; rfl
      simp only [go_sem, Nat.reduceAdd, Nat.reduceSub, Nat.reduceMul, Nat.reduceBEq, Nat.reduceLT, Nat.reduceLeDiff, Nat.reduceEqDiff, Int.reduceToNat, Int.reduceLE, Int.reduceLT, Int.reduceAdd, Int.reduceSub, Int.reduceNeg, Int.reduceBEq, Int.reduceBNe, Nat.reduceBNe, Nat.reduceDiv, Nat.reduceMod, hk1]
      refine ⟨by omega, ?_⟩
      refine kont_hax cx_ok hb 200 mixed [(0, true), (1, true), (2, true), (3, true), (4, true), (5, true), (6, true), (7, true), (8, true), (9, true), (10, true), (11, true), (12, true)] (by kernel_rfl) (by kernel_rfl) ?_
      simp only [go_sem, Nat.reduceAdd, Nat.reduceSub, Nat.reduceMul, Nat.reduceBEq, Nat.reduceLT, Nat.reduceLeDiff, Nat.reduceEqDiff, Int.reduceToNat, Int.reduceLE, Int.reduceLT, Int.reduceAdd, Int.reduceSub, Int.reduceNeg, Int.reduceBEq, Int.reduceBNe, Nat.reduceBNe, Nat.reduceDiv, Nat.reduceMod, ci0]
      have hwr' : IntKind.i64.wrap (1 : Int) = 1 := wrap64 (by decide) (by decide)
      repeat (refine And.intro (by first | assumption | omega) ?_)
      refine ⟨_, Weak.to 0 (by (simp only [go_sem, Nat.reduceAdd, Nat.reduceSub, Nat.reduceMul, Nat.reduceBEq, Nat.reduceLT, Nat.reduceLeDiff, Nat.reduceEqDiff, Int.reduceToNat, Int.reduceLE, Int.reduceLT, Int.reduceAdd, Int.reduceSub, Int.reduceNeg, Int.reduceBEq, Int.reduceBNe, Nat.reduceBNe, Nat.reduceDiv, Nat.reduceMod, hwr', ci0, ci1]) <;> simp), ForS.mk (γ) (hno')⟩
    | succ j =>
      have e9 := bad_take m L j hk1
      have w1 : IntKind.i64.wrap (((j + 1 : Nat) : Int) - 1) = (j : Int) := by rw [wrap64 (by omega) (by omega)]; omega
      have p1 : decide ((0 : Int) < ((j + 1 : Nat) : Int)) = true := by simp
      have hj : j < L.length := by omega
      simp only [go_sem, Nat.reduceAdd, Nat.reduceSub, Nat.reduceMul, Nat.reduceBEq, Nat.reduceLT, Nat.reduceLeDiff, Nat.reduceEqDiff, Int.reduceToNat, Int.reduceLE, Int.reduceLT, Int.reduceAdd, Int.reduceSub, Int.reduceNeg, Int.reduceBEq, Int.reduceBNe, Nat.reduceBNe, Nat.reduceDiv, Nat.reduceMod, hk1]
      refine kont_hax cx_ok hb 200 mixed [(0, true), (1, true), (2, true), (3, true), (4, true), (5, true), (6, true), (7, true), (8, true), (9, true), (10, true), (11, true), (12, true)] (by kernel_rfl) (by kernel_rfl) ?_
      simp only [go_sem, Nat.reduceAdd, Nat.reduceSub, Nat.reduceMul, Nat.reduceBEq, Nat.reduceLT, Nat.reduceLeDiff, Nat.reduceEqDiff, Int.reduceToNat, Int.reduceLE, Int.reduceLT, Int.reduceAdd, Int.reduceSub, Int.reduceNeg, Int.reduceBEq, Int.reduceBNe, Nat.reduceBNe, Nat.reduceDiv, Nat.reduceMod, p1, w1, hj]
      first | refine hite_dec (fun hd => ?_) (fun hd => ?_) | refine hite_beq (fun hd => ?_) (fun hd => ?_) | refine hite_bne (fun hd => ?_) (fun hd => ?_) | refine hite_intro (fun hd => ?_) (fun hd => ?_) | refine hite_decA (fun hd => ?_) (fun hd => ?_) | refine hite_beqA (fun hd => ?_) (fun hd => ?_) | refine hite_bneA (fun hd => ?_) (fun hd => ?_) | refine hite_intro' (fun hd => ?_) (fun hd => ?_)
      · simp only [go_sem, Nat.reduceAdd, Nat.reduceSub, Nat.reduceMul, Nat.reduceBEq, Nat.reduceLT, Nat.reduceLeDiff, Nat.reduceEqDiff, Int.reduceToNat, Int.reduceLE, Int.reduceLT, Int.reduceAdd, Int.reduceSub, Int.reduceNeg, Int.reduceBEq, Int.reduceBNe, Nat.reduceBNe, Nat.reduceDiv, Nat.reduceMod]
        rw [bad27 (by rw [e9, decide_eq_true hd]; simp)]
      · have hno' : badF (L.take (j + 1 + 1)) = false := by rw [e9, hno, decide_eq_false hd]; rfl
        simp only [go_sem, Nat.reduceAdd, Nat.reduceSub, Nat.reduceMul, Nat.reduceBEq, Nat.reduceLT, Nat.reduceLeDiff, Nat.reduceEqDiff, Int.reduceToNat, Int.reduceLE, Int.reduceLT, Int.reduceAdd, Int.reduceSub, Int.reduceNeg, Int.reduceBEq, Int.reduceBNe, Nat.reduceBNe, Nat.reduceDiv, Nat.reduceMod]
        repeat (refine And.intro (by first | assumption | omega) ?_)
        refine ⟨_, Weak.to 0 (by (simp only [go_sem, Nat.reduceAdd, Nat.reduceSub, Nat.reduceMul, Nat.reduceBEq, Nat.reduceLT, Nat.reduceLeDiff, Nat.reduceEqDiff, Int.reduceToNat, Int.reduceLE, Int.reduceLT, Int.reduceAdd, Int.reduceSub, Int.reduceNeg, Int.reduceBEq, Int.reduceBNe, Nat.reduceBNe, Nat.reduceDiv, Nat.reduceMod, hwr]) <;> simp), ForS.mk (γ) (hno')⟩
  · simp only [go_sem, Nat.reduceAdd, Nat.reduceSub, Nat.reduceMul, Nat.reduceBEq, Nat.reduceLT, Nat.reduceLeDiff, Nat.reduceEqDiff, Int.reduceToNat, Int.reduceLE, Int.reduceLT, Int.reduceAdd, Int.reduceSub, Int.reduceNeg, Int.reduceBEq, Int.reduceBNe, Nat.reduceBNe, Nat.reduceDiv, Nat.reduceMod]
    subst hk1
    rw [List.take_length] at hno
    rw [hno] at f2
    simp only [Bool.false_eq_true, if_false] at f2
    refine kont_of_hx cx_ok hb 200 ?_
    simp only [go_sem, Nat.reduceAdd, Nat.reduceSub, Nat.reduceMul, Nat.reduceBEq, Nat.reduceLT, Nat.reduceLeDiff, Nat.reduceEqDiff, Int.reduceToNat, Int.reduceLE, Int.reduceLT, Int.reduceAdd, Int.reduceSub, Int.reduceNeg, Int.reduceBEq, Int.reduceBNe, Nat.reduceBNe, Nat.reduceDiv, Nat.reduceMod]
    refine kont_call hb fn75 rfl ?_ (more_ok L hL ho) (Ret.flat rfl) rfl fun d h hR => ?_
    · simp only [go_sem, Nat.reduceAdd, Nat.reduceSub, Nat.reduceMul, Nat.reduceBEq, Nat.reduceLT, Nat.reduceLeDiff, Nat.reduceEqDiff, Int.reduceToNat, Int.reduceLE, Int.reduceLT, Int.reduceAdd, Int.reduceSub, Int.reduceNeg, Int.reduceBEq, Int.reduceBNe, Nat.reduceBNe, Nat.reduceDiv, Nat.reduceMod]
    obtain ⟨rfl, rfl⟩ := hR
    refine kont_of_hx cx_ok hb 200 ?_
    simp only [go_sem, Nat.reduceAdd, Nat.reduceSub, Nat.reduceMul, Nat.reduceBEq, Nat.reduceLT, Nat.reduceLeDiff, Nat.reduceEqDiff, Int.reduceToNat, Int.reduceLE, Int.reduceLT, Int.reduceAdd, Int.reduceSub, Int.reduceNeg, Int.reduceBEq, Int.reduceBNe, Nat.reduceBNe, Nat.reduceDiv, Nat.reduceMod]
    by_cases h3 : 1099511627776 < totB L
    · rw [if_pos h3] at f2
      simp only [go_sem, Nat.reduceAdd, Nat.reduceSub, Nat.reduceMul, Nat.reduceBEq, Nat.reduceLT, Nat.reduceLeDiff, Nat.reduceEqDiff, Int.reduceToNat, Int.reduceLE, Int.reduceLT, Int.reduceAdd, Int.reduceSub, Int.reduceNeg, Int.reduceBEq, Int.reduceBNe, Nat.reduceBNe, Nat.reduceDiv, Nat.reduceMod, decide_eq_true h3, f2]
    · rw [if_neg h3] at f2
      simp only [go_sem, Nat.reduceAdd, Nat.reduceSub, Nat.reduceMul, Nat.reduceBEq, Nat.reduceLT, Nat.reduceLeDiff, Nat.reduceEqDiff, Int.reduceToNat, Int.reduceLE, Int.reduceLT, Int.reduceAdd, Int.reduceSub, Int.reduceNeg, Int.reduceBEq, Int.reduceBNe, Nat.reduceBNe, Nat.reduceDiv, Nat.reduceMod, decide_eq_false h3, f2]
theorem gB_lt (m : Nat) (L : List Cm) (i k : Nat) (hk : k < L.length) (ht : totB L ≤ 1099511627776) : gB m L i k < 2 ^ 127 := by
  have := gB_le m L i k hk
  omega




theorem dg_sub (a b : Nat) (h : b ≤ a) : dg (a + 2 ^ 128 - b) = dg (a - b) := by
  rw [← dg_mod (a + 2 ^ 128 - b), ← dg_mod (a - b)]
  congr 1
  omega
theorem rminus'_ok (a b : Nat) (ha : a < 2 ^ 128) (h : b ≤ a) : AFn Try.prog 78 [dg a, dg b] (Ret (dg (a - b))) := by
  have := rminus_ok a b ha (by omega)
  rwa [dg_sub a b h] at this
theorem seg_zero (L : List Cm) (i : Nat) : ∀ k, k ≤ i → seg L i k = 0
  | 0, _ => rfl
  | k + 1, h => by simp only [seg]; rw [if_pos (by omega)]
theorem rburst_ok (m : Nat) (L : List Cm) (hm : m ≤ 4294967295) (hL : L.length < 2147483648) (ho : ∀ c ∈ L, c.Ok) (hb0 : badF L = false) (ht : totB L ≤ 1099511627776) : AFn Try.prog 27 [u64 m, cms L] (Ret (u64 (cdiv (rbOut m L L.length) 65536))) := by
  have getOk : ∀ k, k < L.length → (L.getD k default).Ok := fun k hk => by
    rw [List.getD_eq_getElem?_getD, List.getElem?_eq_getElem hk]; exact ho _ (List.getElem_mem hk)
  refine AFn_hxk 0 cx_ok 200 Try.func27 rfl Try.ntmps27 Try.results27 rfl fun base w hb => ?_
  simp only [go_sem, Nat.reduceAdd, Nat.reduceSub, Nat.reduceMul, Nat.reduceBEq, Nat.reduceLT, Nat.reduceLeDiff, Nat.reduceEqDiff, Int.reduceToNat, Int.reduceLE, Int.reduceLT, Int.reduceAdd, Int.reduceSub, Int.reduceNeg, Int.reduceBEq, Int.reduceBNe, Nat.reduceBNe, Nat.reduceDiv, Nat.reduceMod]
  refine kont_forF (G := Nat) [0, 1, 14, 15] (fun k => True) (fun k γ => [(16, dint k), (5, .ptr 0 0 0 0)]) (fun k γ => [⟨.one, 0, 4, 1, fun _ => [u64 (d0 (rbOut m L k)), u64 (d1 (rbOut m L k)), u64 (d2 (rbOut m L k)), u64 (d3 (rbOut m L k))]⟩]) (L.length) (0) rfl (Weak.to 1 (by (simp only [go_sem, Nat.reduceAdd, Nat.reduceSub, Nat.reduceMul, Nat.reduceBEq, Nat.reduceLT, Nat.reduceLeDiff, Nat.reduceEqDiff, Int.reduceToNat, Int.reduceLE, Int.reduceLT, Int.reduceAdd, Int.reduceSub, Int.reduceNeg, Int.reduceBEq, Int.reduceBNe, Nat.reduceBNe, Nat.reduceDiv, Nat.reduceMod, rbOut, dz0, dz1, dz2, dz3]) <;> simp)) trivial ?_
  intro i γ hi _
  refine kont_of_hx cx_ok hb 200 ?_
  simp only [go_sem, Nat.reduceAdd, Nat.reduceSub, Nat.reduceMul, Nat.reduceBEq, Nat.reduceLT, Nat.reduceLeDiff, Nat.reduceEqDiff, Int.reduceToNat, Int.reduceLE, Int.reduceLT, Int.reduceAdd, Int.reduceSub, Int.reduceNeg, Int.reduceBEq, Int.reduceBNe, Nat.reduceBNe, Nat.reduceDiv, Nat.reduceMod]
  have hwr := wrap_succ (show i < 4611686018427387904 by omega)
  first | refine hite_lt hi (fun hk1 => ?_) (fun hk1 => ?_) | refine hite_ltI hi (fun hk1 => ?_) (fun hk1 => ?_)
  · have hi1 := hk1
    simp only [go_sem, Nat.reduceAdd, Nat.reduceSub, Nat.reduceMul, Nat.reduceBEq, Nat.reduceLT, Nat.reduceLeDiff, Nat.reduceEqDiff, Int.reduceToNat, Int.reduceLE, Int.reduceLT, Int.reduceAdd, Int.reduceSub, Int.reduceNeg, Int.reduceBEq, Int.reduceBNe, Nat.reduceBNe, Nat.reduceDiv, Nat.reduceMod, hk1]
    refine kont_forF (G := Nat) [0, 1, 14, 15, 16, 5, 6, 7, 21, 22] (fun k => True) (fun k γ => [(23, dint k), (8, u64 (seg L i k))]) (fun k γ => [⟨.one, 0, 4, 1, fun _ => [u64 (d0 (rbIn m L i (rbOut m L i) k)), u64 (d1 (rbIn m L i (rbOut m L i) k)), u64 (d2 (rbIn m L i (rbOut m L i) k)), u64 (d3 (rbIn m L i (rbOut m L i) k))]⟩, ⟨.one, 0, 2, 1, fun _ => (L.getD i default).cells⟩]) (L.length) (0) rfl (Weak.to 2 (by (simp only [go_sem, Nat.reduceAdd, Nat.reduceSub, Nat.reduceMul, Nat.reduceBEq, Nat.reduceLT, Nat.reduceLeDiff, Nat.reduceEqDiff, Int.reduceToNat, Int.reduceLE, Int.reduceLT, Int.reduceAdd, Int.reduceSub, Int.reduceNeg, Int.reduceBEq, Int.reduceBNe, Nat.reduceBNe, Nat.reduceDiv, Nat.reduceMod, rbIn, seg]) <;> simp)) trivial ?_
    intro k γ' hk _
    refine kont_of_hx cx_ok hb 200 ?_
    simp only [go_sem, Nat.reduceAdd, Nat.reduceSub, Nat.reduceMul, Nat.reduceBEq, Nat.reduceLT, Nat.reduceLeDiff, Nat.reduceEqDiff, Int.reduceToNat, Int.reduceLE, Int.reduceLT, Int.reduceAdd, Int.reduceSub, Int.reduceNeg, Int.reduceBEq, Int.reduceBNe, Nat.reduceBNe, Nat.reduceDiv, Nat.reduceMod]
    have hwr2 := wrap_succ (show k < 4611686018427387904 by omega)
    first | refine hite_lt hk (fun hk1 => ?_) (fun hk1 => ?_) | refine hite_ltI hk (fun hk1 => ?_) (fun hk1 => ?_)
    · have hk2 := hk1
      have e5 : rbIn m L i (rbOut m L i) (k + 1) = if k < i then rbIn m L i (rbOut m L i) k else max (rbIn m L i (rbOut m L i) k) (gB m L i k) := rfl
      have e6 : seg L i (k + 1) = if k < i then 0 else seg L i k + (L.getD k default).b := rfl
      have hbnd := rbIn_le m L i (by omega) k (by omega)
      by_cases c1 : k < i
      · rw [if_pos c1] at e5 e6
        have e7 := seg_zero L i k (by omega)
        simp only [go_sem, Nat.reduceAdd, Nat.reduceSub, Nat.reduceMul, Nat.reduceBEq, Nat.reduceLT, Nat.reduceLeDiff, Nat.reduceEqDiff, Int.reduceToNat, Int.reduceLE, Int.reduceLT, Int.reduceAdd, Int.reduceSub, Int.reduceNeg, Int.reduceBEq, Int.reduceBNe, Nat.reduceBNe, Nat.reduceDiv, Nat.reduceMod, hk1, decide_eq_true c1]
        repeat (refine And.intro (by first | assumption | omega) ?_)
        refine ⟨_, Weak.to 2 (by (simp only [go_sem, Nat.reduceAdd, Nat.reduceSub, Nat.reduceMul, Nat.reduceBEq, Nat.reduceLT, Nat.reduceLeDiff, Nat.reduceEqDiff, Int.reduceToNat, Int.reduceLE, Int.reduceLT, Int.reduceAdd, Int.reduceSub, Int.reduceNeg, Int.reduceBEq, Int.reduceBNe, Nat.reduceBNe, Nat.reduceDiv, Nat.reduceMod, hwr2, e5, e6, e7]) <;> simp), ForS.mk (γ) (trivial)⟩
      · rw [if_neg c1] at e5 e6
        have o1 := getOk i (by omega)
        have o2 := getOk k hk2
        have hmn := mono3 L hb0 i k (by omega) hk2
        have hsg := seg_le L i (k + 1) hk2
        have htk := tot_le L (k + 1) hk2
        have w1 := wu_add' (seg L i k) (L.getD k default).b (by omega)
        have w2 := wu_sub' (L.getD k default).t (L.getD i default).t hmn o2.1
        have hmul : m * ((L.getD k default).t - (L.getD i default).t) < 2 ^ 97 := by
          have : m * ((L.getD k default).t - (L.getD i default).t) ≤ 4294967295 * 18446744073709551615 := Nat.mul_le_mul hm (by have := o2.1; omega)
          omega
        have e8 : gB m L i k = seg L i (k + 1) * 65536 - m * ((L.getD k default).t - (L.getD i default).t) := rfl
        have e9 : seg L i k + (L.getD k default).b = seg L i (k + 1) := e6.symm
        obtain ⟨x, hx⟩ : ∃ x, x = m * ((L.getD k default).t - (L.getD i default).t) := ⟨_, rfl⟩
        rw [← hx] at e8 hmul
        have hm64 : m < 18446744073709551616 := by omega
        have hd64 : (L.getD k default).t - (L.getD i default).t < 18446744073709551616 := by have := o2.1; omega
        obtain ⟨S, hS⟩ : ∃ S, S = seg L i (k + 1) := ⟨_, rfl⟩
        rw [← hS] at e8 e9 hsg
        obtain ⟨r, hr⟩ : ∃ r, r = rbIn m L i (rbOut m L i) k := ⟨_, rfl⟩
        have hS40 : S ≤ 1099511627776 := by omega
        have hr128 : r < 2 ^ 128 := by omega
        rw [← hr] at e5 ⊢
        simp only [go_sem, Nat.reduceAdd, Nat.reduceSub, Nat.reduceMul, Nat.reduceBEq, Nat.reduceLT, Nat.reduceLeDiff, Nat.reduceEqDiff, Int.reduceToNat, Int.reduceLE, Int.reduceLT, Int.reduceAdd, Int.reduceSub, Int.reduceNeg, Int.reduceBEq, Int.reduceBNe, Nat.reduceBNe, Nat.reduceDiv, Nat.reduceMod, hk1, decide_eq_false c1, w1, w2, e9]
        refine kont_call hb fn76 rfl ?_ (rmul_ok m ((L.getD k default).t - (L.getD i default).t) hm64 hd64) (Ret.flat rfl) rfl fun d h hR => ?_
        · simp only [go_sem, Nat.reduceAdd, Nat.reduceSub, Nat.reduceMul, Nat.reduceBEq, Nat.reduceLT, Nat.reduceLeDiff, Nat.reduceEqDiff, Int.reduceToNat, Int.reduceLE, Int.reduceLT, Int.reduceAdd, Int.reduceSub, Int.reduceNeg, Int.reduceBEq, Int.reduceBNe, Nat.reduceBNe, Nat.reduceDiv, Nat.reduceMod, w2]
        obtain ⟨rfl, rfl⟩ := hR
        refine kont_of_hx cx_ok hb 200 ?_
        simp only [go_sem, Nat.reduceAdd, Nat.reduceSub, Nat.reduceMul, Nat.reduceBEq, Nat.reduceLT, Nat.reduceLeDiff, Nat.reduceEqDiff, Int.reduceToNat, Int.reduceLE, Int.reduceLT, Int.reduceAdd, Int.reduceSub, Int.reduceNeg, Int.reduceBEq, Int.reduceBNe, Nat.reduceBNe, Nat.reduceDiv, Nat.reduceMod, w2]
        rw [← hx]
        refine kont_call hb fn77 rfl ?_ (units_ok S (by omega)) (Ret.flat rfl) rfl fun d h hR => ?_
        · simp only [go_sem, Nat.reduceAdd, Nat.reduceSub, Nat.reduceMul, Nat.reduceBEq, Nat.reduceLT, Nat.reduceLeDiff, Nat.reduceEqDiff, Int.reduceToNat, Int.reduceLE, Int.reduceLT, Int.reduceAdd, Int.reduceSub, Int.reduceNeg, Int.reduceBEq, Int.reduceBNe, Nat.reduceBNe, Nat.reduceDiv, Nat.reduceMod]
        obtain ⟨rfl, rfl⟩ := hR
        refine kont_of_hx cx_ok hb 200 ?_
        simp only [go_sem, Nat.reduceAdd, Nat.reduceSub, Nat.reduceMul, Nat.reduceBEq, Nat.reduceLT, Nat.reduceLeDiff, Nat.reduceEqDiff, Int.reduceToNat, Int.reduceLE, Int.reduceLT, Int.reduceAdd, Int.reduceSub, Int.reduceNeg, Int.reduceBEq, Int.reduceBNe, Nat.reduceBNe, Nat.reduceDiv, Nat.reduceMod]
        refine kont_hax cx_ok hb 200 mixed [(0, true), (1, true), (2, false), (3, true), (4, true), (5, true), (6, true), (7, false), (8, false), (9, true)] (by kernel_rfl) (by kernel_rfl) ?_
        simp only [go_sem, Nat.reduceAdd, Nat.reduceSub, Nat.reduceMul, Nat.reduceBEq, Nat.reduceLT, Nat.reduceLeDiff, Nat.reduceEqDiff, Int.reduceToNat, Int.reduceLE, Int.reduceLT, Int.reduceAdd, Int.reduceSub, Int.reduceNeg, Int.reduceBEq, Int.reduceBNe, Nat.reduceBNe, Nat.reduceDiv, Nat.reduceMod]
        refine AX_call hb fn37 rfl ?_ (less_ok x (S * 65536) (by omega) (by omega)) (Ret.flat rfl) rfl fun d h hR => ?_
        · simp only [go_sem, Nat.reduceAdd, Nat.reduceSub, Nat.reduceMul, Nat.reduceBEq, Nat.reduceLT, Nat.reduceLeDiff, Nat.reduceEqDiff, Int.reduceToNat, Int.reduceLE, Int.reduceLT, Int.reduceAdd, Int.reduceSub, Int.reduceNeg, Int.reduceBEq, Int.reduceBNe, Nat.reduceBNe, Nat.reduceDiv, Nat.reduceMod]
        obtain ⟨rfl, rfl⟩ := hR
        refine AX_of_hax cx_ok hb ?_
        simp only [go_sem, Nat.reduceAdd, Nat.reduceSub, Nat.reduceMul, Nat.reduceBEq, Nat.reduceLT, Nat.reduceLeDiff, Nat.reduceEqDiff, Int.reduceToNat, Int.reduceLE, Int.reduceLT, Int.reduceAdd, Int.reduceSub, Int.reduceNeg, Int.reduceBEq, Int.reduceBNe, Nat.reduceBNe, Nat.reduceDiv, Nat.reduceMod]
        cases hq : decide (x < S * 65536)
        · have hq' := of_decide_eq_false hq
          have e10 : max r (gB m L i k) = r := by omega
          simp only [go_sem, Nat.reduceAdd, Nat.reduceSub, Nat.reduceMul, Nat.reduceBEq, Nat.reduceLT, Nat.reduceLeDiff, Nat.reduceEqDiff, Int.reduceToNat, Int.reduceLE, Int.reduceLT, Int.reduceAdd, Int.reduceSub, Int.reduceNeg, Int.reduceBEq, Int.reduceBNe, Nat.reduceBNe, Nat.reduceDiv, Nat.reduceMod]
          rw [e10] at e5
          repeat (refine And.intro (by first | assumption | omega) ?_)
          refine ⟨_, Weak.to 2 (by (simp only [go_sem, Nat.reduceAdd, Nat.reduceSub, Nat.reduceMul, Nat.reduceBEq, Nat.reduceLT, Nat.reduceLeDiff, Nat.reduceEqDiff, Int.reduceToNat, Int.reduceLE, Int.reduceLT, Int.reduceAdd, Int.reduceSub, Int.reduceNeg, Int.reduceBEq, Int.reduceBNe, Nat.reduceBNe, Nat.reduceDiv, Nat.reduceMod, hwr2, e5, ← hS]) <;> simp), ForS.mk (γ) (trivial)⟩
        · have hq' := of_decide_eq_true hq
          simp only [go_sem, Nat.reduceAdd, Nat.reduceSub, Nat.reduceMul, Nat.reduceBEq, Nat.reduceLT, Nat.reduceLeDiff, Nat.reduceEqDiff, Int.reduceToNat, Int.reduceLE, Int.reduceLT, Int.reduceAdd, Int.reduceSub, Int.reduceNeg, Int.reduceBEq, Int.reduceBNe, Nat.reduceBNe, Nat.reduceDiv, Nat.reduceMod]
          refine AX_call hb fn78 rfl ?_ (rminus'_ok (S * 65536) x (by omega) (by omega)) (Ret.flat rfl) rfl fun d h hR => ?_
          · simp only [go_sem, Nat.reduceAdd, Nat.reduceSub, Nat.reduceMul, Nat.reduceBEq, Nat.reduceLT, Nat.reduceLeDiff, Nat.reduceEqDiff, Int.reduceToNat, Int.reduceLE, Int.reduceLT, Int.reduceAdd, Int.reduceSub, Int.reduceNeg, Int.reduceBEq, Int.reduceBNe, Nat.reduceBNe, Nat.reduceDiv, Nat.reduceMod]
          obtain ⟨rfl, rfl⟩ := hR
          refine AX_of_hax cx_ok hb ?_
          simp only [go_sem, Nat.reduceAdd, Nat.reduceSub, Nat.reduceMul, Nat.reduceBEq, Nat.reduceLT, Nat.reduceLeDiff, Nat.reduceEqDiff, Int.reduceToNat, Int.reduceLE, Int.reduceLT, Int.reduceAdd, Int.reduceSub, Int.reduceNeg, Int.reduceBEq, Int.reduceBNe, Nat.reduceBNe, Nat.reduceDiv, Nat.reduceMod]
          rw [← e8]
          refine AX_call hb fn37 rfl ?_ (less_ok r (gB m L i k) (by omega) (by omega)) (Ret.flat rfl) rfl fun d h hR => ?_
          · simp only [go_sem, Nat.reduceAdd, Nat.reduceSub, Nat.reduceMul, Nat.reduceBEq, Nat.reduceLT, Nat.reduceLeDiff, Nat.reduceEqDiff, Int.reduceToNat, Int.reduceLE, Int.reduceLT, Int.reduceAdd, Int.reduceSub, Int.reduceNeg, Int.reduceBEq, Int.reduceBNe, Nat.reduceBNe, Nat.reduceDiv, Nat.reduceMod]
          obtain ⟨rfl, rfl⟩ := hR
          refine AX_of_hax cx_ok hb ?_
          simp only [go_sem, Nat.reduceAdd, Nat.reduceSub, Nat.reduceMul, Nat.reduceBEq, Nat.reduceLT, Nat.reduceLeDiff, Nat.reduceEqDiff, Int.reduceToNat, Int.reduceLE, Int.reduceLT, Int.reduceAdd, Int.reduceSub, Int.reduceNeg, Int.reduceBEq, Int.reduceBNe, Nat.reduceBNe, Nat.reduceDiv, Nat.reduceMod]
          cases hq2 : decide (r < gB m L i k)
          · have hq3 := of_decide_eq_false hq2
            have e10 : max r (gB m L i k) = r := by omega
            rw [e10] at e5
            simp only [go_sem, Nat.reduceAdd, Nat.reduceSub, Nat.reduceMul, Nat.reduceBEq, Nat.reduceLT, Nat.reduceLeDiff, Nat.reduceEqDiff, Int.reduceToNat, Int.reduceLE, Int.reduceLT, Int.reduceAdd, Int.reduceSub, Int.reduceNeg, Int.reduceBEq, Int.reduceBNe, Nat.reduceBNe, Nat.reduceDiv, Nat.reduceMod]
            repeat (refine And.intro (by first | assumption | omega) ?_)
            refine ⟨_, Weak.to 2 (by (simp only [go_sem, Nat.reduceAdd, Nat.reduceSub, Nat.reduceMul, Nat.reduceBEq, Nat.reduceLT, Nat.reduceLeDiff, Nat.reduceEqDiff, Int.reduceToNat, Int.reduceLE, Int.reduceLT, Int.reduceAdd, Int.reduceSub, Int.reduceNeg, Int.reduceBEq, Int.reduceBNe, Nat.reduceBNe, Nat.reduceDiv, Nat.reduceMod, hwr2, e5, ← hS]) <;> simp), ForS.mk (γ) (trivial)⟩
          · have hq3 := of_decide_eq_true hq2
            have e10 : max r (gB m L i k) = gB m L i k := by omega
            rw [e10] at e5
            simp only [go_sem, Nat.reduceAdd, Nat.reduceSub, Nat.reduceMul, Nat.reduceBEq, Nat.reduceLT, Nat.reduceLeDiff, Nat.reduceEqDiff, Int.reduceToNat, Int.reduceLE, Int.reduceLT, Int.reduceAdd, Int.reduceSub, Int.reduceNeg, Int.reduceBEq, Int.reduceBNe, Nat.reduceBNe, Nat.reduceDiv, Nat.reduceMod]
            refine kont_call hb fn78 rfl ?_ (rminus'_ok (S * 65536) x (by omega) (by omega)) (Ret.flat rfl) rfl fun d h hR => ?_
            · simp only [go_sem, Nat.reduceAdd, Nat.reduceSub, Nat.reduceMul, Nat.reduceBEq, Nat.reduceLT, Nat.reduceLeDiff, Nat.reduceEqDiff, Int.reduceToNat, Int.reduceLE, Int.reduceLT, Int.reduceAdd, Int.reduceSub, Int.reduceNeg, Int.reduceBEq, Int.reduceBNe, Nat.reduceBNe, Nat.reduceDiv, Nat.reduceMod, ← e8]
            obtain ⟨rfl, rfl⟩ := hR
            refine kont_of_hx cx_ok hb 200 ?_
            simp only [go_sem, Nat.reduceAdd, Nat.reduceSub, Nat.reduceMul, Nat.reduceBEq, Nat.reduceLT, Nat.reduceLeDiff, Nat.reduceEqDiff, Int.reduceToNat, Int.reduceLE, Int.reduceLT, Int.reduceAdd, Int.reduceSub, Int.reduceNeg, Int.reduceBEq, Int.reduceBNe, Nat.reduceBNe, Nat.reduceDiv, Nat.reduceMod, ← e8]
            repeat (refine And.intro (by first | assumption | omega) ?_)
            refine ⟨_, Weak.to 2 (by (simp only [go_sem, Nat.reduceAdd, Nat.reduceSub, Nat.reduceMul, Nat.reduceBEq, Nat.reduceLT, Nat.reduceLeDiff, Nat.reduceEqDiff, Int.reduceToNat, Int.reduceLE, Int.reduceLT, Int.reduceAdd, Int.reduceSub, Int.reduceNeg, Int.reduceBEq, Int.reduceBNe, Nat.reduceBNe, Nat.reduceDiv, Nat.reduceMod, hwr2, e5, ← hS, ← e8]) <;> simp), ForS.mk (γ) (trivial)⟩
    · simp only [go_sem, Nat.reduceAdd, Nat.reduceSub, Nat.reduceMul, Nat.reduceBEq, Nat.reduceLT, Nat.reduceLeDiff, Nat.reduceEqDiff, Int.reduceToNat, Int.reduceLE, Int.reduceLT, Int.reduceAdd, Int.reduceSub, Int.reduceNeg, Int.reduceBEq, Int.reduceBNe, Nat.reduceBNe, Nat.reduceDiv, Nat.reduceMod]
      refine kont_of_hx cx_ok hb 200 ?_
      simp only [go_sem, Nat.reduceAdd, Nat.reduceSub, Nat.reduceMul, Nat.reduceBEq, Nat.reduceLT, Nat.reduceLeDiff, Nat.reduceEqDiff, Int.reduceToNat, Int.reduceLE, Int.reduceLT, Int.reduceAdd, Int.reduceSub, Int.reduceNeg, Int.reduceBEq, Int.reduceBNe, Nat.reduceBNe, Nat.reduceDiv, Nat.reduceMod]
      subst hk1
      have e11 : rbOut m L (i + 1) = rbIn m L i (rbOut m L i) L.length := rfl
      repeat (refine And.intro (by first | assumption | omega) ?_)
      refine ⟨_, Weak.to 1 (by (simp only [go_sem, Nat.reduceAdd, Nat.reduceSub, Nat.reduceMul, Nat.reduceBEq, Nat.reduceLT, Nat.reduceLeDiff, Nat.reduceEqDiff, Int.reduceToNat, Int.reduceLE, Int.reduceLT, Int.reduceAdd, Int.reduceSub, Int.reduceNeg, Int.reduceBEq, Int.reduceBNe, Nat.reduceBNe, Nat.reduceDiv, Nat.reduceMod, hwr, e11]) <;> simp), ForS.mk (γ) (trivial)⟩
  · simp only [go_sem, Nat.reduceAdd, Nat.reduceSub, Nat.reduceMul, Nat.reduceBEq, Nat.reduceLT, Nat.reduceLeDiff, Nat.reduceEqDiff, Int.reduceToNat, Int.reduceLE, Int.reduceLT, Int.reduceAdd, Int.reduceSub, Int.reduceNeg, Int.reduceBEq, Int.reduceBNe, Nat.reduceBNe, Nat.reduceDiv, Nat.reduceMod]
    refine kont_of_hx cx_ok hb 200 ?_
    simp only [go_sem, Nat.reduceAdd, Nat.reduceSub, Nat.reduceMul, Nat.reduceBEq, Nat.reduceLT, Nat.reduceLeDiff, Nat.reduceEqDiff, Int.reduceToNat, Int.reduceLE, Int.reduceLT, Int.reduceAdd, Int.reduceSub, Int.reduceNeg, Int.reduceBEq, Int.reduceBNe, Nat.reduceBNe, Nat.reduceDiv, Nat.reduceMod]
    subst hk1
    have hrb := rbOut_le m L L.length (Nat.le_refl _)
    have hq : cdiv (rbOut m L L.length) 65536 < 18446744073709551616 := by unfold cdiv; omega
    refine kont_call hb fn79 rfl ?_ (fceil_ok (rbOut m L L.length) 65536 (by omega) (by decide) (by decide) hq) (Ret.flat rfl) rfl fun d h hR => ?_
    · simp only [go_sem, Nat.reduceAdd, Nat.reduceSub, Nat.reduceMul, Nat.reduceBEq, Nat.reduceLT, Nat.reduceLeDiff, Nat.reduceEqDiff, Int.reduceToNat, Int.reduceLE, Int.reduceLT, Int.reduceAdd, Int.reduceSub, Int.reduceNeg, Int.reduceBEq, Int.reduceBNe, Nat.reduceBNe, Nat.reduceDiv, Nat.reduceMod, c65w]
    obtain ⟨rfl, rfl⟩ := hR
    refine kont_of_hx cx_ok hb 200 ?_
    simp only [go_sem, Nat.reduceAdd, Nat.reduceSub, Nat.reduceMul, Nat.reduceBEq, Nat.reduceLT, Nat.reduceLeDiff, Nat.reduceEqDiff, Int.reduceToNat, Int.reduceLE, Int.reduceLT, Int.reduceAdd, Int.reduceSub, Int.reduceNeg, Int.reduceBEq, Int.reduceBNe, Nat.reduceBNe, Nat.reduceDiv, Nat.reduceMod, c65w]
end Go.Fg.X
