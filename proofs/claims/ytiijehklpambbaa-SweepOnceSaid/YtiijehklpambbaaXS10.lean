/- Walks of the functions that the statement reaches. No conditions: contracts and laws. -/
import Derived.Test.YtiijehklpambbaaXS9
namespace Go.Fg.X
open Go.Proofs Go.Fg
set_option maxRecDepth 100000
set_option maxHeartbeats 4000000
set_option linter.unusedSimpArgs false
set_option linter.unusedVariables false
def rng (n : Nat) : List Int := (List.range n).map fun (i : Nat) => (i : Int)
theorem rng_succ (n : Nat) : rng (n + 1) = rng n ++ [(n : Int)] := by simp [rng, List.range_succ]
theorem rng_len (n : Nat) : (rng n).length = n := by simp [rng]
theorem rng_get (n i : Nat) (h : i < n) (d : Int) : (rng n).getD i d = i := by simp [rng, List.getD_eq_getElem?_getD, h]
theorem swAt_append (l r : List Opn) : ∀ k, k ≤ l.length → swAt (l ++ r) k = swAt l k
  | 0, _ => rfl
  | k + 1, h => by
    simp only [swAt]
    rw [swAt_append l r k (by omega)]
    congr 1
    simp [List.getD_eq_getElem?_getD, List.getElem?_append_left (show k < l.length by omega)]
theorem swAt_snoc (l : List Opn) (o : Opn) : swAt (l ++ [o]) (l ++ [o]).length = swStep (swAt l l.length) o := by
  rw [List.length_append, List.length_cons, List.length_nil]
  show swStep (swAt (l ++ [o]) l.length) _ = _
  rw [swAt_append l [o] _ (Nat.le_refl _), getD_end]
theorem plainO_idem (o : Opn) : plainO (plainO o) = plainO o := by
  unfold plainO; split
  · simp
  · split
    · simp
    · split
      · simp
      · split <;> simp [*]
structure Inv (s : Sw) : Prop where
  c : 0 ≤ s.ck ∧ s.ck ≤ 4611686018427387904
  q : swAt s.ops s.ops.length = ⟨s.ops, rng s.ops.length, s.ck⟩
  pf : ∀ o ∈ s.ops, plainO o = o
  m : ∀ I last, s.ops = I ++ [last] → last.kind = 4 → ∃ ck0, swAt I I.length = ⟨I, rng I.length, ck0⟩ ∧ 0 ≤ ck0 ∧ 0 < last.ticks ∧ ck0 + last.ticks = s.ck ∧ lastK I ≠ 4
theorem last_of {l : List Opn} (h : 0 < l.length) : ∃ I, l = I ++ [l.getD (l.length - 1) default] := by
  rcases List.eq_nil_or_concat l with rfl | ⟨I, a, rfl⟩
  · simp at h
  · exact ⟨I, by simp⟩
theorem inv_step {s : Sw} (v : Inv s) (o : Opn) (ho : 0 ≤ o.ticks) (hp : plainO o = o) : Inv (swStep s o) := by
  obtain ⟨c, q, pf, m⟩ := v
  have pfs : ∀ x ∈ s.ops ++ [o], plainO x = x := fun x hx => by
    rcases List.mem_append.1 hx with h | h
    · exact pf x h
    · simp at h; rw [h]; exact hp
  have snoc_inj : ∀ {A B : List Opn} {x y : Opn}, A ++ [x] = B ++ [y] → A = B ∧ x = y := fun h => by
    have h1 := congrArg List.dropLast h
    have h2 := congrArg List.getLast? h
    simp at h1 h2
    exact ⟨h1, h2⟩
  have hlk : ∀ (A : List Opn), A = s.ops → ¬ (0 < s.ops.length ∧ (s.ops.getD (s.ops.length - 1) default).kind = 4) → lastK A ≠ 4 := by
    intro A hA h
    subst hA
    unfold lastK
    split
    · omega
    · exact fun x => h ⟨by omega, x⟩
  by_cases c1 : o.kind = 1 ∨ o.kind = 2 ∨ o.kind = 3
  · have e : swStep s o = ⟨s.ops ++ [o], s.pl ++ [(s.ops.length : Int)], s.ck⟩ := by rw [swStep, if_pos c1]
    rw [e]
    refine ⟨c, ?_, pfs, fun I last h h4 => ?_⟩
    · rw [swAt_snoc, q, swStep, if_pos c1]; simp [rng_succ]
    · obtain ⟨_, rfl⟩ := snoc_inj h; omega
  · by_cases c4 : o.kind = 4
    · by_cases c5 : o.ticks = 0 ∨ IntKind.u64.wrap (4611686018427387904 - s.ck) < o.ticks
      · have e : swStep s o = ⟨s.ops, s.pl ++ [-1], s.ck⟩ := by rw [swStep, if_neg c1, if_pos c4, if_pos c5]
        rw [e]; exact ⟨c, q, pf, m⟩
      · have w1 : IntKind.u64.wrap (4611686018427387904 - s.ck) = 4611686018427387904 - s.ck := wrapu (by omega) (by omega)
        rw [w1] at c5
        have w2 : IntKind.u64.wrap (s.ck + o.ticks) = s.ck + o.ticks := wrapu (by omega) (by omega)
        by_cases c6 : 0 < s.ops.length ∧ (s.ops.getD (s.ops.length - 1) default).kind = 4
        · obtain ⟨I, hI⟩ := last_of c6.1
          generalize hl : s.ops.getD (s.ops.length - 1) default = last at *
          obtain ⟨ck0, m1, m2, m3, m4, m5⟩ := m I last hI c6.2
          have w3 : IntKind.u64.wrap (last.ticks + o.ticks) = last.ticks + o.ticks := wrapu (by omega) (by omega)
          have hn : s.ops.length - 1 = I.length := by rw [hI]; simp
          have e : swStep s o = ⟨I ++ [{ last with ticks := last.ticks + o.ticks }], s.pl ++ [((s.ops.length - 1 : Nat) : Int)], s.ck + o.ticks⟩ := by
            rw [swStep, if_neg c1, if_pos c4, if_neg (by rw [w1]; exact c5), hl, if_pos c6, w2, w3, hn]
            congr 1
            rw [hI, List.set_append_right _ _ (Nat.le_refl _)]; simp
          rw [e]
          have hlp := pf last (by rw [hI]; simp)
          refine ⟨⟨by simp only; omega, by simp only; omega⟩, ?_, fun x hx => ?_, fun A b h h4 => ?_⟩
          · have w4 : IntKind.u64.wrap (4611686018427387904 - ck0) = 4611686018427387904 - ck0 := wrapu (by omega) (by omega)
            have w5 : IntKind.u64.wrap (ck0 + (last.ticks + o.ticks)) = ck0 + (last.ticks + o.ticks) := wrapu (by omega) (by omega)
            have n6 : ¬ (0 < I.length ∧ (I.getD (I.length - 1) default).kind = 4) := fun h => by
              apply m5; unfold lastK; rw [if_neg (by omega)]; exact h.2
            rw [swAt_snoc, m1, swStep, if_neg (by simp only; omega), if_pos (by simp only; exact c6.2), if_neg (by simp only; rw [w4]; omega), if_neg n6]
            simp only [w5, List.length_append, List.length_cons, List.length_nil, rng_succ, Nat.zero_add]
            congr 1; omega
          · rcases List.mem_append.1 hx with h | h
            · exact pf x (by rw [hI]; simp [h])
            · simp at h
              rw [h]
              have := plainO_T last
              rw [hlp] at this
              have h2 := this c6.2
              rw [h2]; rfl
          · obtain ⟨rfl, rfl⟩ := snoc_inj h
            exact ⟨ck0, m1, m2, by simp only; omega, by simp only; omega, m5⟩
        · have e : swStep s o = ⟨s.ops ++ [o], s.pl ++ [(s.ops.length : Int)], s.ck + o.ticks⟩ := by
            rw [swStep, if_neg c1, if_pos c4, if_neg (by rw [w1]; exact c5), if_neg c6, w2]
          rw [e]
          refine ⟨⟨by simp only; omega, by simp only; omega⟩, ?_, pfs, fun I last h h4 => ?_⟩
          · rw [swAt_snoc, q, swStep, if_neg c1, if_pos c4, if_neg (by simp only; rw [w1]; exact c5), if_neg c6, w2]; simp [rng_succ]
          · obtain ⟨rfl, rfl⟩ := snoc_inj h
            exact ⟨s.ck, q, c.1, by omega, rfl, hlk _ rfl c6⟩
    · have e : swStep s o = ⟨s.ops, s.pl ++ [-1], s.ck⟩ := by rw [swStep, if_neg c1, if_neg c4]
      rw [e]; exact ⟨c, q, pf, m⟩
theorem plainO_ticks0 (o : Opn) (h : 0 ≤ o.ticks) : 0 ≤ (plainO o).ticks := by
  unfold plainO; split
  · simp
  · split
    · simp
    · split
      · simp
      · split
        · exact h
        · simp
theorem inv_all (l : List Opn) (hw : ∀ o ∈ l, 0 ≤ o.ticks) : ∀ k, k ≤ l.length → Inv (swAt (l.map plainO) k)
  | 0, _ => ⟨⟨Int.le_refl 0, by show (0 : Int) ≤ _; omega⟩, rfl, fun o h => by simp [swAt] at h, fun I last h => by simp [swAt] at h⟩
  | k + 1, hk => by
    have ih := inv_all l hw k (by omega)
    have hL : (l.map plainO).getD k default = plainO (l.getD k default) := getD_map _ _ _ _ _ (by omega)
    simp only [swAt, hL]
    exact inv_step ih _ (plainO_ticks0 _ (hw _ (getD_mem _ _ _ (by omega)))) (plainO_idem _)
/-- Swept once more. -/
theorem sweep_twice (x : Scr) (hw : ∀ o ∈ x.ops, 0 ≤ o.ticks) : swS ⟨x.config, (swS x).ops⟩ = ⟨(swS x).ops, rng (swS x).ops.length, (swS x).ck⟩ := by
  have v := inv_all x.ops hw x.ops.length (Nat.le_refl _)
  have e : ((swS x).ops).map plainO = (swS x).ops := by
    conv => rhs; rw [← List.map_id (swS x).ops]
    exact List.map_congr_left fun o ho => v.pf o ho
  show swAt ((swS x).ops.map plainO) (swS x).ops.length = _
  rw [e]; exact v.q
theorem sweepOnce_ok (x : Scr) (hx : x.Ok) : AFn Try.prog 6 [.agg x.cells] (Ret (dbool true)) := by
  refine AFn_hxk 0 cx_ok 200 Try.func6 rfl Try.ntmps6 Try.results6 rfl fun base w hb => ?_
  simp only [go_sem, Nat.reduceAdd, Nat.reduceSub, Nat.reduceMul, Nat.reduceBEq, Nat.reduceLT, Nat.reduceLeDiff, Nat.reduceEqDiff, Int.reduceToNat, Int.reduceLE, Int.reduceLT, Int.reduceAdd, Int.reduceSub, Int.reduceNeg, Int.reduceBEq, Int.reduceBNe, Nat.reduceBNe, Nat.reduceDiv, Nat.reduceMod]
  refine kont_call hb fn21 rfl ?_ (few_ok x 200 (by decide)) (Ret.flat rfl) rfl fun d h hR => ?_
  · simp only [go_sem, Nat.reduceAdd, Nat.reduceSub, Nat.reduceMul, Nat.reduceBEq, Nat.reduceLT, Nat.reduceLeDiff, Nat.reduceEqDiff, Int.reduceToNat, Int.reduceLE, Int.reduceLT, Int.reduceAdd, Int.reduceSub, Int.reduceNeg, Int.reduceBEq, Int.reduceBNe, Nat.reduceBNe, Nat.reduceDiv, Nat.reduceMod, cast200]
  obtain ⟨rfl, rfl⟩ := hR
  refine kont_of_hx cx_ok hb 200 ?_
  simp only [go_sem, Nat.reduceAdd, Nat.reduceSub, Nat.reduceMul, Nat.reduceBEq, Nat.reduceLT, Nat.reduceLeDiff, Nat.reduceEqDiff, Int.reduceToNat, Int.reduceLE, Int.reduceLT, Int.reduceAdd, Int.reduceSub, Int.reduceNeg, Int.reduceBEq, Int.reduceBNe, Nat.reduceBNe, Nat.reduceDiv, Nat.reduceMod, cast200]
  cases hf : few x 200
  · simp only [go_sem, Nat.reduceAdd, Nat.reduceSub, Nat.reduceMul, Nat.reduceBEq, Nat.reduceLT, Nat.reduceLeDiff, Nat.reduceEqDiff, Int.reduceToNat, Int.reduceLE, Int.reduceLT, Int.reduceAdd, Int.reduceSub, Int.reduceNeg, Int.reduceBEq, Int.reduceBNe, Nat.reduceBNe, Nat.reduceDiv, Nat.reduceMod]
    refine kont_call hb fn22 rfl ?_ five_ok (Ret.flat rfl) rfl fun d h hR => ?_
    · simp only [go_sem, Nat.reduceAdd, Nat.reduceSub, Nat.reduceMul, Nat.reduceBEq, Nat.reduceLT, Nat.reduceLeDiff, Nat.reduceEqDiff, Int.reduceToNat, Int.reduceLE, Int.reduceLT, Int.reduceAdd, Int.reduceSub, Int.reduceNeg, Int.reduceBEq, Int.reduceBNe, Nat.reduceBNe, Nat.reduceDiv, Nat.reduceMod]
    obtain ⟨rfl, rfl⟩ := hR
    refine kont_of_hx cx_ok hb 200 ?_
    simp only [go_sem, Nat.reduceAdd, Nat.reduceSub, Nat.reduceMul, Nat.reduceBEq, Nat.reduceLT, Nat.reduceLeDiff, Nat.reduceEqDiff, Int.reduceToNat, Int.reduceLE, Int.reduceLT, Int.reduceAdd, Int.reduceSub, Int.reduceNeg, Int.reduceBEq, Int.reduceBNe, Nat.reduceBNe, Nat.reduceDiv, Nat.reduceMod]
  · have hs := few_small (by decide) hf
    have hw := ok_ticks hx
    have hl := hs.1
    have hpl := swS_pl_len x
    have hol := swS_ops_len x
    have s2 := swS_small hs
    have g1 := sSweep_ok ⟨x.config, (swS x).ops⟩ s2
    have g2 := sPlaces_ok ⟨x.config, (swS x).ops⟩ s2
    have g3 := sTicks_ok ⟨x.config, (swS x).ops⟩ s2
    rw [sweep_twice x hw] at g1 g2 g3
    simp only [go_sem, Nat.reduceAdd, Nat.reduceSub, Nat.reduceMul, Nat.reduceBEq, Nat.reduceLT, Nat.reduceLeDiff, Nat.reduceEqDiff, Int.reduceToNat, Int.reduceLE, Int.reduceLT, Int.reduceAdd, Int.reduceSub, Int.reduceNeg, Int.reduceBEq, Int.reduceBNe, Nat.reduceBNe, Nat.reduceDiv, Nat.reduceMod]
    refine kont_callM hb [] fn24 rfl ?_ (sSweep_ok x hs) rfl fun d h hR => ?_
    · simp only [go_sem, Nat.reduceAdd, Nat.reduceSub, Nat.reduceMul, Nat.reduceBEq, Nat.reduceLT, Nat.reduceLeDiff, Nat.reduceEqDiff, Int.reduceToNat, Int.reduceLE, Int.reduceLT, Int.reduceAdd, Int.reduceSub, Int.reduceNeg, Int.reduceBEq, Int.reduceBNe, Nat.reduceBNe, Nat.reduceDiv, Nat.reduceMod]
    obtain ⟨rfl, rfl⟩ := hR
    simp only [go_sem, Nat.reduceAdd, Nat.reduceSub, Nat.reduceMul, Nat.reduceBEq, Nat.reduceLT, Nat.reduceLeDiff, Nat.reduceEqDiff, Int.reduceToNat, Int.reduceLE, Int.reduceLT, Int.reduceAdd, Int.reduceSub, Int.reduceNeg, Int.reduceBEq, Int.reduceBNe, Nat.reduceBNe, Nat.reduceDiv, Nat.reduceMod]
    refine kont_of_hx cx_ok hb 200 ?_
    simp only [go_sem, Nat.reduceAdd, Nat.reduceSub, Nat.reduceMul, Nat.reduceBEq, Nat.reduceLT, Nat.reduceLeDiff, Nat.reduceEqDiff, Int.reduceToNat, Int.reduceLE, Int.reduceLT, Int.reduceAdd, Int.reduceSub, Int.reduceNeg, Int.reduceBEq, Int.reduceBNe, Nat.reduceBNe, Nat.reduceDiv, Nat.reduceMod]
    refine kont_callM hb [] fn24 rfl ?_ g1 rfl fun d h hR => ?_
    · simp only [go_sem, Nat.reduceAdd, Nat.reduceSub, Nat.reduceMul, Nat.reduceBEq, Nat.reduceLT, Nat.reduceLeDiff, Nat.reduceEqDiff, Int.reduceToNat, Int.reduceLE, Int.reduceLT, Int.reduceAdd, Int.reduceSub, Int.reduceNeg, Int.reduceBEq, Int.reduceBNe, Nat.reduceBNe, Nat.reduceDiv, Nat.reduceMod]
    obtain ⟨rfl, rfl⟩ := hR
    simp only [go_sem, Nat.reduceAdd, Nat.reduceSub, Nat.reduceMul, Nat.reduceBEq, Nat.reduceLT, Nat.reduceLeDiff, Nat.reduceEqDiff, Int.reduceToNat, Int.reduceLE, Int.reduceLT, Int.reduceAdd, Int.reduceSub, Int.reduceNeg, Int.reduceBEq, Int.reduceBNe, Nat.reduceBNe, Nat.reduceDiv, Nat.reduceMod]
    refine kont_of_hx cx_ok hb 200 ?_
    simp only [go_sem, Nat.reduceAdd, Nat.reduceSub, Nat.reduceMul, Nat.reduceBEq, Nat.reduceLT, Nat.reduceLeDiff, Nat.reduceEqDiff, Int.reduceToNat, Int.reduceLE, Int.reduceLT, Int.reduceAdd, Int.reduceSub, Int.reduceNeg, Int.reduceBEq, Int.reduceBNe, Nat.reduceBNe, Nat.reduceDiv, Nat.reduceMod]
    refine kont_callM hb [] fn27 rfl ?_ g2 rfl fun d h hR => ?_
    · simp only [go_sem, Nat.reduceAdd, Nat.reduceSub, Nat.reduceMul, Nat.reduceBEq, Nat.reduceLT, Nat.reduceLeDiff, Nat.reduceEqDiff, Int.reduceToNat, Int.reduceLE, Int.reduceLT, Int.reduceAdd, Int.reduceSub, Int.reduceNeg, Int.reduceBEq, Int.reduceBNe, Nat.reduceBNe, Nat.reduceDiv, Nat.reduceMod]
    obtain ⟨rfl, rfl⟩ := hR
    simp only [go_sem, Nat.reduceAdd, Nat.reduceSub, Nat.reduceMul, Nat.reduceBEq, Nat.reduceLT, Nat.reduceLeDiff, Nat.reduceEqDiff, Int.reduceToNat, Int.reduceLE, Int.reduceLT, Int.reduceAdd, Int.reduceSub, Int.reduceNeg, Int.reduceBEq, Int.reduceBNe, Nat.reduceBNe, Nat.reduceDiv, Nat.reduceMod]
    refine kont_of_hx cx_ok hb 200 ?_
    simp only [go_sem, Nat.reduceAdd, Nat.reduceSub, Nat.reduceMul, Nat.reduceBEq, Nat.reduceLT, Nat.reduceLeDiff, Nat.reduceEqDiff, Int.reduceToNat, Int.reduceLE, Int.reduceLT, Int.reduceAdd, Int.reduceSub, Int.reduceNeg, Int.reduceBEq, Int.reduceBNe, Nat.reduceBNe, Nat.reduceDiv, Nat.reduceMod]
    generalize hse : swS x = s at *
    refine kont_forF (G := Nat) [1, 3, 4, 16, 17] (fun k => True) (fun k γ => [(18, dint k)]) (fun k γ => [⟨.one, 0, 3, 1, fun _ => x.cells⟩, ⟨.one, 0, 3, 1, fun _ => Scr.cells ⟨x.config, s.ops⟩⟩, ⟨.one, 0, 3, 1, fun _ => Scr.cells ⟨x.config, s.ops⟩⟩]) (s.ops.length) (0) rfl (Weak.to 3 (by (simp only [go_sem, Nat.reduceAdd, Nat.reduceSub, Nat.reduceMul, Nat.reduceBEq, Nat.reduceLT, Nat.reduceLeDiff, Nat.reduceEqDiff, Int.reduceToNat, Int.reduceLE, Int.reduceLT, Int.reduceAdd, Int.reduceSub, Int.reduceNeg, Int.reduceBEq, Int.reduceBNe, Nat.reduceBNe, Nat.reduceDiv, Nat.reduceMod, rng_len]) <;> simp)) trivial ?_
    intro k γ hk _
    refine kont_of_hx cx_ok hb 200 ?_
    simp only [go_sem, Nat.reduceAdd, Nat.reduceSub, Nat.reduceMul, Nat.reduceBEq, Nat.reduceLT, Nat.reduceLeDiff, Nat.reduceEqDiff, Int.reduceToNat, Int.reduceLE, Int.reduceLT, Int.reduceAdd, Int.reduceSub, Int.reduceNeg, Int.reduceBEq, Int.reduceBNe, Nat.reduceBNe, Nat.reduceDiv, Nat.reduceMod, rng_len]
    have hwr := wrap_succ (show k < 4611686018427387904 by omega)
    first | refine hite_lt hk (fun hk1 => ?_) (fun hk1 => ?_) | refine hite_ltI hk (fun hk1 => ?_) (fun hk1 => ?_)
    · have hr := rng_get s.ops.length k hk1 0
      simp only [go_sem, Nat.reduceAdd, Nat.reduceSub, Nat.reduceMul, Nat.reduceBEq, Nat.reduceLT, Nat.reduceLeDiff, Nat.reduceEqDiff, Int.reduceToNat, Int.reduceLE, Int.reduceLT, Int.reduceAdd, Int.reduceSub, Int.reduceNeg, Int.reduceBEq, Int.reduceBNe, Nat.reduceBNe, Nat.reduceDiv, Nat.reduceMod, hk1, rng_len, hr, bne_self_eq_false]
      repeat (refine And.intro (by first | assumption | omega) ?_)
      refine ⟨_, Weak.to 3 (by (simp only [go_sem, Nat.reduceAdd, Nat.reduceSub, Nat.reduceMul, Nat.reduceBEq, Nat.reduceLT, Nat.reduceLeDiff, Nat.reduceEqDiff, Int.reduceToNat, Int.reduceLE, Int.reduceLT, Int.reduceAdd, Int.reduceSub, Int.reduceNeg, Int.reduceBEq, Int.reduceBNe, Nat.reduceBNe, Nat.reduceDiv, Nat.reduceMod, hwr, rng_len]) <;> simp), ForS.mk (γ) (trivial)⟩
    · simp only [go_sem, Nat.reduceAdd, Nat.reduceSub, Nat.reduceMul, Nat.reduceBEq, Nat.reduceLT, Nat.reduceLeDiff, Nat.reduceEqDiff, Int.reduceToNat, Int.reduceLE, Int.reduceLT, Int.reduceAdd, Int.reduceSub, Int.reduceNeg, Int.reduceBEq, Int.reduceBNe, Nat.reduceBNe, Nat.reduceDiv, Nat.reduceMod]
      subst hk1
      refine kont_of_hx cx_ok hb 200 ?_
      simp only [go_sem, Nat.reduceAdd, Nat.reduceSub, Nat.reduceMul, Nat.reduceBEq, Nat.reduceLT, Nat.reduceLeDiff, Nat.reduceEqDiff, Int.reduceToNat, Int.reduceLE, Int.reduceLT, Int.reduceAdd, Int.reduceSub, Int.reduceNeg, Int.reduceBEq, Int.reduceBNe, Nat.reduceBNe, Nat.reduceDiv, Nat.reduceMod]
      have d1 : decide (s.ops.length ≤ x.ops.length) = true := decide_eq_true hol
      have d2 : decide ((s.ops.length : Int) ≤ x.ops.length) = true := decide_eq_true (by omega)
      refine kont_hax cx_ok hb 200 mixed [(0, true), (1, true), (2, true), (3, true), (4, true), (5, true), (6, true), (7, true), (8, true), (9, true), (10, false), (11, true), (12, true), (13, true), (15, true), (14, false), (16, false), (17, true), (18, true), (19, true), (20, true), (23, true), (24, true), (25, true), (21, false), (22, true), (26, true), (27, true), (28, true), (29, false), (30, true), (31, true)] (by kernel_rfl) ?_
      simp only [go_sem, Nat.reduceAdd, Nat.reduceSub, Nat.reduceMul, Nat.reduceBEq, Nat.reduceLT, Nat.reduceLeDiff, Nat.reduceEqDiff, Int.reduceToNat, Int.reduceLE, Int.reduceLT, Int.reduceAdd, Int.reduceSub, Int.reduceNeg, Int.reduceBEq, Int.reduceBNe, Nat.reduceBNe, Nat.reduceDiv, Nat.reduceMod, d1, d2]
      refine AX_call hb fn23 rfl ?_ (alike_self ⟨x.config, s.ops⟩ (by simp only; omega) s2.2) (Ret.flat rfl) rfl fun d h hR => ?_
      · simp only [go_sem, Nat.reduceAdd, Nat.reduceSub, Nat.reduceMul, Nat.reduceBEq, Nat.reduceLT, Nat.reduceLeDiff, Nat.reduceEqDiff, Int.reduceToNat, Int.reduceLE, Int.reduceLT, Int.reduceAdd, Int.reduceSub, Int.reduceNeg, Int.reduceBEq, Int.reduceBNe, Nat.reduceBNe, Nat.reduceDiv, Nat.reduceMod]
      obtain ⟨rfl, rfl⟩ := hR
      refine AX_of_hax cx_ok hb ?_
      simp only [go_sem, Nat.reduceAdd, Nat.reduceSub, Nat.reduceMul, Nat.reduceBEq, Nat.reduceLT, Nat.reduceLeDiff, Nat.reduceEqDiff, Int.reduceToNat, Int.reduceLE, Int.reduceLT, Int.reduceAdd, Int.reduceSub, Int.reduceNeg, Int.reduceBEq, Int.reduceBNe, Nat.reduceBNe, Nat.reduceDiv, Nat.reduceMod]
      refine AX_call hb fn29 rfl ?_ g3 (Ret.flat rfl) rfl fun d h hR => ?_
      · simp only [go_sem, Nat.reduceAdd, Nat.reduceSub, Nat.reduceMul, Nat.reduceBEq, Nat.reduceLT, Nat.reduceLeDiff, Nat.reduceEqDiff, Int.reduceToNat, Int.reduceLE, Int.reduceLT, Int.reduceAdd, Int.reduceSub, Int.reduceNeg, Int.reduceBEq, Int.reduceBNe, Nat.reduceBNe, Nat.reduceDiv, Nat.reduceMod]
      obtain ⟨rfl, rfl⟩ := hR
      refine AX_of_hax cx_ok hb ?_
      simp only [go_sem, Nat.reduceAdd, Nat.reduceSub, Nat.reduceMul, Nat.reduceBEq, Nat.reduceLT, Nat.reduceLeDiff, Nat.reduceEqDiff, Int.reduceToNat, Int.reduceLE, Int.reduceLT, Int.reduceAdd, Int.reduceSub, Int.reduceNeg, Int.reduceBEq, Int.reduceBNe, Nat.reduceBNe, Nat.reduceDiv, Nat.reduceMod]
      have g5 := sTicks_ok x hs
      rw [hse] at g5
      refine AX_call hb fn29 rfl ?_ g5 (Ret.flat rfl) rfl fun d h hR => ?_
      · simp only [go_sem, Nat.reduceAdd, Nat.reduceSub, Nat.reduceMul, Nat.reduceBEq, Nat.reduceLT, Nat.reduceLeDiff, Nat.reduceEqDiff, Int.reduceToNat, Int.reduceLE, Int.reduceLT, Int.reduceAdd, Int.reduceSub, Int.reduceNeg, Int.reduceBEq, Int.reduceBNe, Nat.reduceBNe, Nat.reduceDiv, Nat.reduceMod, beq_self_eq_true]
      obtain ⟨rfl, rfl⟩ := hR
      refine AX_of_hax cx_ok hb ?_
      simp only [go_sem, Nat.reduceAdd, Nat.reduceSub, Nat.reduceMul, Nat.reduceBEq, Nat.reduceLT, Nat.reduceLeDiff, Nat.reduceEqDiff, Int.reduceToNat, Int.reduceLE, Int.reduceLT, Int.reduceAdd, Int.reduceSub, Int.reduceNeg, Int.reduceBEq, Int.reduceBNe, Nat.reduceBNe, Nat.reduceDiv, Nat.reduceMod, beq_self_eq_true]
      have g6 := sPlaces_ok x hs
      rw [hse] at g6
      refine AX_callC hb fn27 rfl ?_ g6 rfl fun d h hR => ?_
      · simp only [go_sem, Nat.reduceAdd, Nat.reduceSub, Nat.reduceMul, Nat.reduceBEq, Nat.reduceLT, Nat.reduceLeDiff, Nat.reduceEqDiff, Int.reduceToNat, Int.reduceLE, Int.reduceLT, Int.reduceAdd, Int.reduceSub, Int.reduceNeg, Int.reduceBEq, Int.reduceBNe, Nat.reduceBNe, Nat.reduceDiv, Nat.reduceMod, hpl, beq_self_eq_true]
      obtain ⟨rfl, rfl⟩ := hR
      simp only [go_sem, Nat.reduceAdd, Nat.reduceSub, Nat.reduceMul, Nat.reduceBEq, Nat.reduceLT, Nat.reduceLeDiff, Nat.reduceEqDiff, Int.reduceToNat, Int.reduceLE, Int.reduceLT, Int.reduceAdd, Int.reduceSub, Int.reduceNeg, Int.reduceBEq, Int.reduceBNe, Nat.reduceBNe, Nat.reduceDiv, Nat.reduceMod, hpl, beq_self_eq_true]
      refine AX_of_hax cx_ok hb ?_
      simp only [go_sem, Nat.reduceAdd, Nat.reduceSub, Nat.reduceMul, Nat.reduceBEq, Nat.reduceLT, Nat.reduceLeDiff, Nat.reduceEqDiff, Int.reduceToNat, Int.reduceLE, Int.reduceLT, Int.reduceAdd, Int.reduceSub, Int.reduceNeg, Int.reduceBEq, Int.reduceBNe, Nat.reduceBNe, Nat.reduceDiv, Nat.reduceMod, hpl, beq_self_eq_true]
      refine AX_call hb fn22 rfl ?_ five_ok (Ret.flat rfl) rfl fun d h hR => ?_
      · simp only [go_sem, Nat.reduceAdd, Nat.reduceSub, Nat.reduceMul, Nat.reduceBEq, Nat.reduceLT, Nat.reduceLeDiff, Nat.reduceEqDiff, Int.reduceToNat, Int.reduceLE, Int.reduceLT, Int.reduceAdd, Int.reduceSub, Int.reduceNeg, Int.reduceBEq, Int.reduceBNe, Nat.reduceBNe, Nat.reduceDiv, Nat.reduceMod]
      obtain ⟨rfl, rfl⟩ := hR
      refine AX_of_hax cx_ok hb ?_
      simp only [go_sem, Nat.reduceAdd, Nat.reduceSub, Nat.reduceMul, Nat.reduceBEq, Nat.reduceLT, Nat.reduceLeDiff, Nat.reduceEqDiff, Int.reduceToNat, Int.reduceLE, Int.reduceLT, Int.reduceAdd, Int.reduceSub, Int.reduceNeg, Int.reduceBEq, Int.reduceBNe, Nat.reduceBNe, Nat.reduceDiv, Nat.reduceMod]
end Go.Fg.X
