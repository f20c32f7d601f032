/- Walks of the functions that the statement reaches. No conditions: contracts and laws. -/
import Derived.Test.YtiijehklpambbaaXS6
namespace Go.Fg.X
open Go.Proofs Go.Fg
set_option maxRecDepth 100000
set_option maxHeartbeats 4000000
set_option linter.unusedSimpArgs false
set_option linter.unusedVariables false
def PlainT (o : Opn) : Prop := o.kind = 4 → o = ⟨4, [], [], ⟨0, 0, 0, 0, 0, 0⟩, o.ticks⟩
theorem plainO_T (o : Opn) : PlainT (plainO o) := fun h => by
  rw [plainO_kind] at h
  unfold plainO; rw [if_neg (by omega), if_neg (by omega), if_neg (by omega), if_pos h]
theorem swAt_T (l : List Opn) : ∀ k, k ≤ l.length → ∀ o ∈ (swAt (l.map plainO) k).ops, PlainT o
  | 0, _, o, h => by simp [swAt] at h
  | k + 1, hk, o, h => by
    have ih := swAt_T l k (by omega)
    have hL : (l.map plainO).getD k default = plainO (l.getD k default) := getD_map _ _ _ _ _ (by omega)
    simp only [swAt, hL] at h
    generalize swAt (l.map plainO) k = s at *
    have hsn : ∀ o', PlainT o' → o ∈ s.ops ++ [o'] → PlainT o := fun o' ho' hm => by
      rcases List.mem_append.1 hm with h1 | h1
      · exact ih o h1
      · simp at h1; rw [h1]; exact ho'
    unfold swStep at h
    split at h
    · exact hsn _ (plainO_T _) h
    · split at h
      · split at h
        · exact ih o h
        · split at h
          · rename_i c
            rcases List.mem_or_eq_of_mem_set h with h1 | h1
            · exact ih o h1
            · have h2 := ih _ (getD_mem s.ops default (s.ops.length - 1) (by omega)) c.2
              intro _
              rw [h1]
              rw [h2]
          · exact hsn _ (plainO_T _) h
      · exact ih o h
/-- What step k does. -/
inductive StepK (s t : Sw) (o : Opn) (p : Int) : Prop
  | gone (h1 : p = -1) (h2 : t.ops = s.ops)
  | app (h1 : p = (s.ops.length : Int)) (h2 : t.ops = s.ops ++ [o])
  | mrg (h0 : 0 < s.ops.length) (h1 : p = ((s.ops.length - 1 : Nat) : Int)) (h2 : t.ops = s.ops.set (s.ops.length - 1) { s.ops.getD (s.ops.length - 1) default with ticks := IntKind.u64.wrap ((s.ops.getD (s.ops.length - 1) default).ticks + o.ticks) }) (h3 : (s.ops.getD (s.ops.length - 1) default).kind = 4) (h4 : o.kind = 4)
theorem stepK (s : Sw) (o : Opn) : ∃ p, (swStep s o).pl = s.pl ++ [p] ∧ StepK s (swStep s o) o p := by
  unfold swStep
  split
  · exact ⟨_, rfl, .app rfl rfl⟩
  · split
    · split
      · exact ⟨_, rfl, .gone rfl rfl⟩
      · split
        · rename_i c4 _ c; exact ⟨_, rfl, .mrg c.1 rfl rfl c.2 c4⟩
        · exact ⟨_, rfl, .app rfl rfl⟩
    · exact ⟨_, rfl, .gone rfl rfl⟩
theorem swAt_pl (l : List Opn) (k : Nat) (d : Int) : ∀ m, ((swAt l (k + 1 + m)).pl).getD k d = ((swAt l (k + 1)).pl).getD k d
  | 0 => rfl
  | m + 1 => by
    rw [← swAt_pl l k d m]
    show (swStep (swAt l (k + 1 + m)) (l.getD (k + 1 + m) default)).pl.getD k d = _
    obtain ⟨p, hp, _⟩ := stepK (swAt l (k + 1 + m)) (l.getD (k + 1 + m) default)
    rw [hp, getD_lt _ _ _ _ (by rw [(swAt_len l _).1]; omega)]
theorem swAt_step (l : List Opn) (k n : Nat) (h : k < n) (d : Int) : StepK (swAt l k) (swAt l (k + 1)) (l.getD k default) ((swAt l n).pl.getD k d) := by
  obtain ⟨m, rfl⟩ : ∃ m, n = k + 1 + m := ⟨n - k - 1, by omega⟩
  rw [swAt_pl]
  show StepK _ _ _ ((swStep (swAt l k) (l.getD k default)).pl.getD k d)
  obtain ⟨p, hp, hs⟩ := stepK (swAt l k) (l.getD k default)
  have : (swStep (swAt l k) (l.getD k default)).pl.getD k d = p := by
    rw [hp]
    have := getD_end (swAt l k).pl p d
    rw [(swAt_len l k).1] at this
    exact this
  rw [this]; exact hs
theorem rplaces_sw (x : Scr) (hw : ∀ o ∈ x.ops, 0 ≤ o.ticks) : (rpAt x.ops x.ops.length).out = (swS x).pl := by
  rw [(tells x.ops hw _ (Nat.le_refl _)).pl]; rfl
theorem rsweep_ok (x : Scr) (h : Small x) (hw : ∀ o ∈ x.ops, 0 ≤ o.ticks) : AFn Try.prog 25 [.agg x.cells] (Ret (.agg (Scr.cells ⟨x.config, (swS x).ops⟩))) := by
  refine AFn_hxk 0 cx_ok 200 Try.func25 rfl Try.ntmps25 Try.results25 rfl fun base w hb => ?_
  simp only [go_sem, Nat.reduceAdd, Nat.reduceSub, Nat.reduceMul, Nat.reduceBEq, Nat.reduceLT, Nat.reduceLeDiff, Nat.reduceEqDiff, Int.reduceToNat, Int.reduceLE, Int.reduceLT, Int.reduceAdd, Int.reduceSub, Int.reduceNeg, Int.reduceBEq, Int.reduceBNe, Nat.reduceBNe, Nat.reduceDiv, Nat.reduceMod]
  refine kont_callM hb [] fn28 rfl ?_ (rplaces_ok x h) rfl fun d h hR => ?_
  · simp only [go_sem, Nat.reduceAdd, Nat.reduceSub, Nat.reduceMul, Nat.reduceBEq, Nat.reduceLT, Nat.reduceLeDiff, Nat.reduceEqDiff, Int.reduceToNat, Int.reduceLE, Int.reduceLT, Int.reduceAdd, Int.reduceSub, Int.reduceNeg, Int.reduceBEq, Int.reduceBNe, Nat.reduceBNe, Nat.reduceDiv, Nat.reduceMod]
  obtain ⟨rfl, rfl⟩ := hR
  simp only [go_sem, Nat.reduceAdd, Nat.reduceSub, Nat.reduceMul, Nat.reduceBEq, Nat.reduceLT, Nat.reduceLeDiff, Nat.reduceEqDiff, Int.reduceToNat, Int.reduceLE, Int.reduceLT, Int.reduceAdd, Int.reduceSub, Int.reduceNeg, Int.reduceBEq, Int.reduceBNe, Nat.reduceBNe, Nat.reduceDiv, Nat.reduceMod]
  refine kont_of_hx cx_ok hb 200 ?_
  simp only [go_sem, Nat.reduceAdd, Nat.reduceSub, Nat.reduceMul, Nat.reduceBEq, Nat.reduceLT, Nat.reduceLeDiff, Nat.reduceEqDiff, Int.reduceToNat, Int.reduceLE, Int.reduceLT, Int.reduceAdd, Int.reduceSub, Int.reduceNeg, Int.reduceBEq, Int.reduceBNe, Nat.reduceBNe, Nat.reduceDiv, Nat.reduceMod]
  rw [rplaces_sw x hw]
  refine kont_weak_code (Weak.phantom 4 10 (Opn.rows []) rfl) ?_
  simp only [go_sem, Nat.reduceAdd, Nat.reduceSub, Nat.reduceMul, Nat.reduceBEq, Nat.reduceLT, Nat.reduceLeDiff, Nat.reduceEqDiff, Int.reduceToNat, Int.reduceLE, Int.reduceLT, Int.reduceAdd, Int.reduceSub, Int.reduceNeg, Int.reduceBEq, Int.reduceBNe, Nat.reduceBNe, Nat.reduceDiv, Nat.reduceMod]
  have h1 := h.1
  have hplen : (swS x).pl.length = x.ops.length := (swAt_len _ _).1
  simp only [hplen]
  generalize hP : (swS x).pl = PL at *
  refine kont_forF (G := Nat) [1, 2, 3, 11, 12] (fun k => True) (fun k γ => [(4, .ref 2 (swAt (plainS x).ops k).ops.length 0 (swAt (plainS x).ops k).ops.length), (13, dint k)]) (fun k γ => [⟨.one, 0, 3, 1, fun _ => x.cells⟩, ⟨.one, 0, 3, 1, fun _ => [.raw (.int .i64 0), .raw (.int .i64 0), .nil]⟩, ⟨.arr, (swAt (plainS x).ops k).ops.length, 10, (swAt (plainS x).ops k).ops.length, Opn.rows (swAt (plainS x).ops k).ops⟩]) (x.ops.length) (0) rfl (Weak.to 3 (by (simp only [go_sem, Nat.reduceAdd, Nat.reduceSub, Nat.reduceMul, Nat.reduceBEq, Nat.reduceLT, Nat.reduceLeDiff, Nat.reduceEqDiff, Int.reduceToNat, Int.reduceLE, Int.reduceLT, Int.reduceAdd, Int.reduceSub, Int.reduceNeg, Int.reduceBEq, Int.reduceBNe, Nat.reduceBNe, Nat.reduceDiv, Nat.reduceMod, swAt]) <;> simp)) trivial ?_
  intro k γ hk _
  refine kont_of_hx cx_ok hb 200 ?_
  simp only [go_sem, Nat.reduceAdd, Nat.reduceSub, Nat.reduceMul, Nat.reduceBEq, Nat.reduceLT, Nat.reduceLeDiff, Nat.reduceEqDiff, Int.reduceToNat, Int.reduceLE, Int.reduceLT, Int.reduceAdd, Int.reduceSub, Int.reduceNeg, Int.reduceBEq, Int.reduceBNe, Nat.reduceBNe, Nat.reduceDiv, Nat.reduceMod]
  have hwr := wrap_succ (show k < 4611686018427387904 by omega)
  first | refine hite_lt hk (fun hk1 => ?_) (fun hk1 => ?_) | refine hite_ltI hk (fun hk1 => ?_) (fun hk1 => ?_)
  · have hst := swAt_step (plainS x).ops k x.ops.length hk1 0
    have hps : (swAt (plainS x).ops x.ops.length).pl = PL := hP
    rw [hps] at hst
    have hT := swAt_T x.ops k hk
    have hL : (plainS x).ops.getD k default = plainO (x.ops.getD k default) := getD_map _ _ _ _ _ hk1
    have hlen := (swAt_len (plainS x).ops k).2
    have hT : ∀ o ∈ (swAt (plainS x).ops k).ops, PlainT o := hT
    rw [hL] at hst
    generalize hoe : x.ops.getD k default = o at *
    generalize hse : swAt (plainS x).ops k = s at *
    generalize hte : swAt (plainS x).ops (k + 1) = t at *
    generalize hpe : PL.getD k 0 = p at *
    cases hst with
    | gone q1 q2 =>
      subst q1
      simp only [go_sem, Nat.reduceAdd, Nat.reduceSub, Nat.reduceMul, Nat.reduceBEq, Nat.reduceLT, Nat.reduceLeDiff, Nat.reduceEqDiff, Int.reduceToNat, Int.reduceLE, Int.reduceLT, Int.reduceAdd, Int.reduceSub, Int.reduceNeg, Int.reduceBEq, Int.reduceBNe, Nat.reduceBNe, Nat.reduceDiv, Nat.reduceMod, hk1, hoe, hpe]
      repeat (refine And.intro (by first | assumption | omega) ?_)
      refine ⟨_, Weak.to 3 (by (simp only [go_sem, Nat.reduceAdd, Nat.reduceSub, Nat.reduceMul, Nat.reduceBEq, Nat.reduceLT, Nat.reduceLeDiff, Nat.reduceEqDiff, Int.reduceToNat, Int.reduceLE, Int.reduceLT, Int.reduceAdd, Int.reduceSub, Int.reduceNeg, Int.reduceBEq, Int.reduceBNe, Nat.reduceBNe, Nat.reduceDiv, Nat.reduceMod, hwr, hte, q2]) <;> simp), ForS.mk (γ) (trivial)⟩
    | app q1 q2 =>
      subst q1
      have d1 : decide ((s.ops.length : Int) < 0) = false := decide_eq_false (by omega)
      simp only [go_sem, Nat.reduceAdd, Nat.reduceSub, Nat.reduceMul, Nat.reduceBEq, Nat.reduceLT, Nat.reduceLeDiff, Nat.reduceEqDiff, Int.reduceToNat, Int.reduceLE, Int.reduceLT, Int.reduceAdd, Int.reduceSub, Int.reduceNeg, Int.reduceBEq, Int.reduceBNe, Nat.reduceBNe, Nat.reduceDiv, Nat.reduceMod, hk1, hoe, hpe, d1]
      refine kont_callM hb [] fn77 rfl ?_ (rplain_ok o) rfl fun d h hR => ?_
      · simp only [go_sem, Nat.reduceAdd, Nat.reduceSub, Nat.reduceMul, Nat.reduceBEq, Nat.reduceLT, Nat.reduceLeDiff, Nat.reduceEqDiff, Int.reduceToNat, Int.reduceLE, Int.reduceLT, Int.reduceAdd, Int.reduceSub, Int.reduceNeg, Int.reduceBEq, Int.reduceBNe, Nat.reduceBNe, Nat.reduceDiv, Nat.reduceMod]
      obtain ⟨rfl, rfl⟩ := hR
      simp only [go_sem, Nat.reduceAdd, Nat.reduceSub, Nat.reduceMul, Nat.reduceBEq, Nat.reduceLT, Nat.reduceLeDiff, Nat.reduceEqDiff, Int.reduceToNat, Int.reduceLE, Int.reduceLT, Int.reduceAdd, Int.reduceSub, Int.reduceNeg, Int.reduceBEq, Int.reduceBNe, Nat.reduceBNe, Nat.reduceDiv, Nat.reduceMod]
      refine kont_of_hx cx_ok hb 200 ?_
      simp only [go_sem, Nat.reduceAdd, Nat.reduceSub, Nat.reduceMul, Nat.reduceBEq, Nat.reduceLT, Nat.reduceLeDiff, Nat.reduceEqDiff, Int.reduceToNat, Int.reduceLE, Int.reduceLT, Int.reduceAdd, Int.reduceSub, Int.reduceNeg, Int.reduceBEq, Int.reduceBNe, Nat.reduceBNe, Nat.reduceDiv, Nat.reduceMod]
      repeat (refine And.intro (by first | assumption | omega) ?_)
      refine ⟨_, Weak.to 3 ⟨?_, ?_, ?_, ?_⟩, ForS.mk γ trivial⟩
      · simp only [go_sem, Nat.reduceAdd, Nat.reduceSub, Nat.reduceMul, Nat.reduceBEq, Nat.reduceLT, Nat.reduceLeDiff, Nat.reduceEqDiff, Int.reduceToNat, Int.reduceLE, Int.reduceLT, Int.reduceAdd, Int.reduceSub, Int.reduceNeg, Int.reduceBEq, Int.reduceBNe, Nat.reduceBNe, Nat.reduceDiv, Nat.reduceMod, hwr, hte, q2, List.length_append]
      · simp only [go_sem, Nat.reduceAdd, Nat.reduceSub, Nat.reduceMul, Nat.reduceBEq, Nat.reduceLT, Nat.reduceLeDiff, Nat.reduceEqDiff, Int.reduceToNat, Int.reduceLE, Int.reduceLT, Int.reduceAdd, Int.reduceSub, Int.reduceNeg, Int.reduceBEq, Int.reduceBNe, Nat.reduceBNe, Nat.reduceDiv, Nat.reduceMod]
      · simp only [go_sem, Nat.reduceAdd, Nat.reduceSub, Nat.reduceMul, Nat.reduceBEq, Nat.reduceLT, Nat.reduceLeDiff, Nat.reduceEqDiff, Int.reduceToNat, Int.reduceLE, Int.reduceLT, Int.reduceAdd, Int.reduceSub, Int.reduceNeg, Int.reduceBEq, Int.reduceBNe, Nat.reduceBNe, Nat.reduceDiv, Nat.reduceMod]
      · simp only [go_sem, Nat.reduceAdd, Nat.reduceSub, Nat.reduceMul, Nat.reduceBEq, Nat.reduceLT, Nat.reduceLeDiff, Nat.reduceEqDiff, Int.reduceToNat, Int.reduceLE, Int.reduceLT, Int.reduceAdd, Int.reduceSub, Int.reduceNeg, Int.reduceBEq, Int.reduceBNe, Nat.reduceBNe, Nat.reduceDiv, Nat.reduceMod, hte, q2, List.length_append]
        intro i hi
        rw [getD_app _ _ _ _ hi]
        cases decide (i < s.ops.length) <;> rfl
    | mrg q0 q1 q2 q3 q4 =>
      subst q1
      have d1 : decide (((s.ops.length - 1 : Nat) : Int) < 0) = false := decide_eq_false (by omega)
      have d2 : (((s.ops.length - 1 : Nat) : Int) == (s.ops.length : Int)) = false := beqF (by omega)
      have d3 : s.ops.length - 1 < s.ops.length := by omega
      simp only [go_sem, Nat.reduceAdd, Nat.reduceSub, Nat.reduceMul, Nat.reduceBEq, Nat.reduceLT, Nat.reduceLeDiff, Nat.reduceEqDiff, Int.reduceToNat, Int.reduceLE, Int.reduceLT, Int.reduceAdd, Int.reduceSub, Int.reduceNeg, Int.reduceBEq, Int.reduceBNe, Nat.reduceBNe, Nat.reduceDiv, Nat.reduceMod, hk1, hoe, hpe, d1, d2, d3]
      refine kont_hax cx_ok hb 200 mixed [(0, true), (1, true), (2, true), (3, true), (4, true), (5, true), (6, true), (7, true), (8, true), (9, true), (10, true), (11, true), (12, false)] (by kernel_rfl) ?_
      simp only [go_sem, Nat.reduceAdd, Nat.reduceSub, Nat.reduceMul, Nat.reduceBEq, Nat.reduceLT, Nat.reduceLeDiff, Nat.reduceEqDiff, Int.reduceToNat, Int.reduceLE, Int.reduceLT, Int.reduceAdd, Int.reduceSub, Int.reduceNeg, Int.reduceBEq, Int.reduceBNe, Nat.reduceBNe, Nat.reduceDiv, Nat.reduceMod, hk1, hoe, hpe, d1, d2, d3]
      repeat (refine And.intro (by first | assumption | omega) ?_)
      have hlast := hT _ (getD_mem s.ops default _ d3) q3
      have htk : (plainO o).ticks = o.ticks := plainO_ticks _ (by rw [← plainO_kind]; exact q4)
      refine ⟨_, Weak.toT 3 ?_, ForS.mk γ trivial⟩
      simp only [go_sem, Nat.reduceAdd, Nat.reduceSub, Nat.reduceMul, Nat.reduceBEq, Nat.reduceLT, Nat.reduceLeDiff, Nat.reduceEqDiff, Int.reduceToNat, Int.reduceLE, Int.reduceLT, Int.reduceAdd, Int.reduceSub, Int.reduceNeg, Int.reduceBEq, Int.reduceBNe, Nat.reduceBNe, Nat.reduceDiv, Nat.reduceMod, hwr, hte, q2, List.length_set]
      intro i hi
      rw [setrow rfl q0 _ hi]
      by_cases hin : i = s.ops.length - 1
      · subst hin
        generalize s.ops.getD (s.ops.length - 1) default = last at *
        rw [hlast]
        (simp only [go_sem, Nat.reduceAdd, Nat.reduceSub, Nat.reduceMul, Nat.reduceBEq, Nat.reduceLT, Nat.reduceLeDiff, Nat.reduceEqDiff, Int.reduceToNat, Int.reduceLE, Int.reduceLT, Int.reduceAdd, Int.reduceSub, Int.reduceNeg, Int.reduceBEq, Int.reduceBNe, Nat.reduceBNe, Nat.reduceDiv, Nat.reduceMod, htk]) <;> simp
      · have hf : (i == s.ops.length - 1) = false := beq_eq_false_iff_ne.2 hin
        simp only [hf, cond_false, lLe_self]
  · simp only [go_sem, Nat.reduceAdd, Nat.reduceSub, Nat.reduceMul, Nat.reduceBEq, Nat.reduceLT, Nat.reduceLeDiff, Nat.reduceEqDiff, Int.reduceToNat, Int.reduceLE, Int.reduceLT, Int.reduceAdd, Int.reduceSub, Int.reduceNeg, Int.reduceBEq, Int.reduceBNe, Nat.reduceBNe, Nat.reduceDiv, Nat.reduceMod]
    subst hk1
    refine kont_weak_code (Weak.freeze rfl 2 rfl rfl (fun i hi => by simp only [go_sem, Nat.reduceAdd, Nat.reduceSub, Nat.reduceMul, Nat.reduceBEq, Nat.reduceLT, Nat.reduceLeDiff, Nat.reduceEqDiff, Int.reduceToNat, Int.reduceLE, Int.reduceLT, Int.reduceAdd, Int.reduceSub, Int.reduceNeg, Int.reduceBEq, Int.reduceBNe, Nat.reduceBNe, Nat.reduceDiv, Nat.reduceMod])) ?_
    simp only [go_sem, Nat.reduceAdd, Nat.reduceSub, Nat.reduceMul, Nat.reduceBEq, Nat.reduceLT, Nat.reduceLeDiff, Nat.reduceEqDiff, Int.reduceToNat, Int.reduceLE, Int.reduceLT, Int.reduceAdd, Int.reduceSub, Int.reduceNeg, Int.reduceBEq, Int.reduceBNe, Nat.reduceBNe, Nat.reduceDiv, Nat.reduceMod]
    refine kont_of_hx cx_ok hb 200 ?_
    simp only [go_sem, Nat.reduceAdd, Nat.reduceSub, Nat.reduceMul, Nat.reduceBEq, Nat.reduceLT, Nat.reduceLeDiff, Nat.reduceEqDiff, Int.reduceToNat, Int.reduceLE, Int.reduceLT, Int.reduceAdd, Int.reduceSub, Int.reduceNeg, Int.reduceBEq, Int.reduceBNe, Nat.reduceBNe, Nat.reduceDiv, Nat.reduceMod]
    rfl
end Go.Fg.X
