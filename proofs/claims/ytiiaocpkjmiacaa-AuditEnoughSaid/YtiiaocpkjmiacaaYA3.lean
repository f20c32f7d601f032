/- Walks of the functions that the statement reaches. No conditions: contracts and laws. -/
import Derived.Test.YtiiaocpkjmiacaaYA2
namespace Go.Fg.X
open Go.Proofs Go.Fg
set_option maxRecDepth 100000
set_option maxHeartbeats 4000000
set_option linter.unusedSimpArgs false
set_option linter.unusedVariables false
structure Waits (h : List Ob) (es : List Ent) (W : Int → List Pk) : Prop where
  at_ : ∀ k, SlAt id h ((alook es k).getD .nil) (W k)
  sep : ∀ k k' lo g off n g' off' n', alook es k = some (.ref lo g off n) → alook es k' = some (.ref lo g' off' n') → k = k'
/-- What is neither an auditor nor a slice of packets, nor a map, stays. -/
def Same (h h' : List Ob) : Prop := ∀ (l : Nat) (o : Ob), h[l]? = some o → o.kd.ty = 0 → o.sz ≠ 17 → o.sz ≠ 6 → h'[l]? = some o
def stepW (W : Int → List Pk) (e : Ev) : Int → List Pk := fun k => if k = e.cls then (if e.inn then W k ++ [e.pk] else (W k).tail) else W k
theorem ne_of_get {h : List Ob} {l m : Nat} {o o' : Ob} (a : h[l]? = some o) (b : h[m]? = some o') (hn : o.sz ≠ o'.sz) : l ≠ m := by
  rintro rfl; rw [a] at b; cases b; exact hn rfl
theorem Waits.set {h h' : List Ob} {es es' : List Ent} {W : Int → List Pk} (w : Waits h es W) {k : Int} {d : D} {p : List Pk} (lo : Nat) (ho : ∀ (l : Nat) (o : Ob), h[l]? = some o → o.sz = 6 → l ≠ lo → h'[l]? = some o)
    (hd : SlAt id h' d p) (hl : ∀ l g off n, d = .ref l g off n → l = lo) (hs : ∀ k' l g off n, k' ≠ k → alook es k' = some (.ref l g off n) → l ≠ lo)
    (he : ∀ k', alook es' k' = if k' = k then some d else alook es k') : Waits h' es' (fun k' => if k' = k then p else W k') := by
  refine ⟨fun k' => ?_, fun k1 k2 l g off n g' off' n' h1 h2 => ?_⟩
  · rw [he k']
    by_cases hk : k' = k
    · rw [if_pos hk, if_pos hk]; exact hd
    · rw [if_neg hk, if_neg hk]
      rcases w.at_ k' with ⟨h1, h2⟩ | ⟨l, g, off, row, h1, h2, h3⟩
      · exact .inl ⟨h1, h2⟩
      · refine .inr ⟨l, g, off, row, h1, ho l _ h2 rfl ?_, h3⟩
        cases ha : alook es k' with
        | none => rw [ha] at h1; cases h1
        | some d' =>
          rw [ha] at h1
          simp only [Option.getD_some] at h1
          subst h1
          exact hs k' l g off _ hk ha
  · rw [he k1] at h1
    rw [he k2] at h2
    by_cases a1 : k1 = k <;> by_cases a2 : k2 = k
    · rw [a1, a2]
    · rw [if_pos a1] at h1
      rw [if_neg a2] at h2
      exact absurd (hl _ _ _ _ (Option.some.inj h1)) (hs k2 _ _ _ _ a2 h2)
    · rw [if_neg a1] at h1
      rw [if_pos a2] at h2
      exact absurd (hl _ _ _ _ (Option.some.inj h2)) (hs k1 _ _ _ _ a1 h1)
    · rw [if_neg a1] at h1
      rw [if_neg a2] at h2
      exact w.sep k1 k2 l g off n g' off' n' h1 h2
structure TakePost (h : List Ob) (la lm : Nat) (x : Cf) (e : Ev) (done : Int) (q : D) (W : Int → List Pk) (h' : List Ob) : Prop where
  a : h'[la]? = some ⟨.one, 0, 17, 1, fun _ => aCells x lm e done q⟩
  m : ∃ c' es', h'[lm]? = some (mapOb .i64 c' es') ∧ Waits h' es' W
  s : Same h h'
/-- The heap behind: the auditor and the map turned, a slice of packets at lo. -/
theorem takePost_of {h h' : List Ob} {la lm lo c : Nat} {es : List Ent} {W : Int → List Pk} {x : Cf} {e : Ev} {done : Int} {q : D} {d : D} {p : List Pk} {o : Ob} (w : Waits h es W) (ha : h[la]? = some o) (ha17 : o.sz = 17) (hm : h[lm]? = some (mapOb .i64 c es))
    (h1 : h'[la]? = some ⟨.one, 0, 17, 1, fun _ => aCells x lm e done q⟩) (h2 : h'[lm]? = some (mset .i64 c es e.cls d)) (hd : SlAt id h' d p) (hl : ∀ l g off n, d = .ref l g off n → l = lo)
    (hs : ∀ k' l g off n, k' ≠ e.cls → alook es k' = some (.ref l g off n) → l ≠ lo) (ho : ∀ (l : Nat) (o : Ob), h[l]? = some o → l ≠ la → l ≠ lm → l ≠ lo → h'[l]? = some o) (hlo : ∀ o, h[lo]? = some o → o.sz = 6) :
    TakePost h la lm x e done q (fun k' => if k' = e.cls then p else W k') h' := by
  have hmz : (mapOb .i64 c es).sz = 3 := rfl
  obtain ⟨c', es', h3, h4⟩ := mset_ok .i64 c es e.cls d
  refine ⟨h1, ⟨c', es', by rw [h2, h3], w.set lo (fun l o hlo h6 hne => ho l o hlo ?_ ?_ hne) hd hl hs h4⟩, fun l o hg hk h17 h6 => ho l o hg ?_ ?_ ?_⟩
  · exact ne_of_get hlo ha (by omega)
  · exact ne_of_get hlo hm (by omega)
  · rintro rfl; rw [ha] at hg; cases hg; exact h17 ha17
  · rintro rfl; rw [hm] at hg; cases hg; exact absurd hk (by show (1 : Nat) ≠ 0; decide)
  · rintro rfl; exact h6 (hlo o hg)
theorem SlAt.nil {f : Ob → Ob} {h : List Ob} {p : List Pk} (hp : SlAt f h .nil p) : p = [] := by
  rcases hp with ⟨_, h⟩ | ⟨_, _, _, _, h, _⟩
  · exact h
  · cases h
theorem take_ok (h : List Ob) (la lm : Nat) (x : Cf) (l : Ev) (done : Int) (q : D) (e : Ev) (es : List Ent) (c : Nat) (W : Int → List Pk)
    (ha : h[la]? = some ⟨.one, 0, 17, 1, fun _ => aCells x lm l done q⟩) (hm : h[lm]? = some (mapOb .i64 c es)) (hW : Waits h es W) (hne : e.inn = false → W e.cls ≠ []) (hbd : (W e.cls).length < 1000000) :
    MFn Try.prog 39 h [.ptr la 0 0 0, .agg e.cells] (fun d h' => TakePost h la lm x e (if e.inn then done else e.done) q (stepW W e) h') := by
  have h1 : la ≠ lm := ne_of_get ha hm (by show (17 : Nat) ≠ 3; decide)
  have hp := hW.at_ e.cls
  have hno : ∀ (es' : List Ent) k' l g off n n', n' = h.length + 2 → Waits h es' W → alook es' k' = some (.ref l g off n) → l ≠ n' := fun es' k' l g off n n' hn hw hk => by
    rcases hw.at_ k' with ⟨h2, _⟩ | ⟨l', _, _, _, h2, h3, _⟩
    · rw [hk] at h2; cases h2
    · rw [hk] at h2; cases h2
      have := hlt h3
      omega
  cases hi : e.inn with
  | true =>
    have hst : stepW W e = fun k' => if k' = e.cls then W e.cls ++ [e.pk] else W k' := by
      funext k; unfold stepW; rw [hi]; by_cases hk : k = e.cls <;> simp [hk]
    rw [hst]
    have new : (alook es e.cls = none ∨ alook es e.cls = some .nil) → W e.cls = [] → TakePost h la lm x e done q (fun k' => if k' = e.cls then W e.cls ++ [e.pk] else W k')
        ((h.set la ⟨.one, 0, 17, 1, fun _ => aCells x lm e done q⟩).set lm (mset .i64 c es e.cls (.ref (h.length + 2) 0 0 1)) ++ [⟨.one, 0, 12, 1, fun _ => e.cells⟩, ⟨.arr, 0, 6, 1, fun _ => e.pk.cells⟩, ⟨.arr, 0, 6, 1, fun _ => e.pk.cells⟩]) := fun hk hw => by
      have ha_l := hlt ha
      have hm_l := hlt hm
      refine takePost_of (lo := h.length + 2) (d := .ref (h.length + 2) 0 0 1) hW ha rfl hm ?_ ?_ (.inr ⟨h.length + 2, 0, 0, fun _ => e.pk.cells, ?_, ?_, ?_⟩) (fun l g off n e => by cases e; rfl) (fun k' l g off n _ hk' => hno es k' l g off n _ rfl hW hk') (fun l o ho n1 n2 n3 => ?_) (fun o ho => absurd (hlt ho) (by omega))
      · rw [hgetA (by simpa using ha_l), hgetN h1.symm, hgetS ha_l]
      · rw [hgetA (by simpa using hm_l), hgetS (by simpa using hm_l)]
      · rw [hw]; rfl
      · rw [hgetLk (by simp), hw]; rfl
      · intro i hi
        rw [hw] at hi ⊢
        simp at hi
        subst hi; rfl
      · have := hlt ho
        rw [hgetA (by simpa using this), hgetN (Ne.symm n2), hgetN (Ne.symm n1), ho]
    cases hk : alook es e.cls with
    | none =>
      rw [hk] at hp
      have hw := hp.nil
      refine MFn_hx cx_ok 200 Try.func39 rfl Try.ntmps39 Try.results39 rfl fun base w pl hb => ?_
      have ha_l := hlt ha
      have hm_l := hlt hm
      simp only [go_sem, Nat.reduceAdd, Nat.reduceSub, Nat.reduceMul, Nat.reduceBEq, Nat.reduceLT, Nat.reduceLeDiff, Nat.reduceEqDiff, Int.reduceToNat, Int.reduceLE, Int.reduceLT, Int.reduceAdd, Int.reduceSub, Int.reduceNeg, Int.reduceBEq, Int.reduceBNe, Nat.reduceBNe, Nat.reduceDiv, Nat.reduceMod, hgetA, hgetL, hgetLk, hsetA, hsetL, hsetLk, List.length_append, List.length_set, List.append_assoc, List.set_set, ha, ha_l, hm, hm_l, hi, h1, h1.symm, hk]
      refine kont_haxF cx_ok hb 200 mixed [(0, true), (1, true), (2, true), (4, true), (6, true), (7, true), (8, true), (9, true), (10, true), (11, true), (12, true), (13, true), (14, true)] [3, 5, 15, 16, 17] (by kernel_rfl) (by kernel_rfl) ?_
      simp only [go_sem, Nat.reduceAdd, Nat.reduceSub, Nat.reduceMul, Nat.reduceBEq, Nat.reduceLT, Nat.reduceLeDiff, Nat.reduceEqDiff, Int.reduceToNat, Int.reduceLE, Int.reduceLT, Int.reduceAdd, Int.reduceSub, Int.reduceNeg, Int.reduceBEq, Int.reduceBNe, Nat.reduceBNe, Nat.reduceDiv, Nat.reduceMod, hgetA, hgetL, hgetLk, hsetA, hsetL, hsetLk, List.length_append, List.length_set, List.append_assoc, List.set_set, ha, ha_l, hm, hm_l, hi, h1, h1.symm, hk, hgetS, hgetN, ↓reduceIte]
      have fin := new (.inl hk) hw
      simp only [go_sem, Nat.reduceAdd, Nat.reduceSub, Nat.reduceMul, Nat.reduceBEq, Nat.reduceLT, Nat.reduceLeDiff, Nat.reduceEqDiff, Int.reduceToNat, Int.reduceLE, Int.reduceLT, Int.reduceAdd, Int.reduceSub, Int.reduceNeg, Int.reduceBEq, Int.reduceBNe, Nat.reduceBNe, Nat.reduceDiv, Nat.reduceMod, Ev.pk, hi] at fin ⊢
      repeat' apply And.intro
      all_goals exact fin
    | some d =>
      rw [hk] at hp
      rcases hp with ⟨h2, h3⟩ | ⟨lo, g, off, row, h2, h3, h4⟩
      · simp only [Option.getD_some] at h2
        subst h2
        refine MFn_hx cx_ok 200 Try.func39 rfl Try.ntmps39 Try.results39 rfl fun base w pl hb => ?_
        have ha_l := hlt ha
        have hm_l := hlt hm
        simp only [go_sem, Nat.reduceAdd, Nat.reduceSub, Nat.reduceMul, Nat.reduceBEq, Nat.reduceLT, Nat.reduceLeDiff, Nat.reduceEqDiff, Int.reduceToNat, Int.reduceLE, Int.reduceLT, Int.reduceAdd, Int.reduceSub, Int.reduceNeg, Int.reduceBEq, Int.reduceBNe, Nat.reduceBNe, Nat.reduceDiv, Nat.reduceMod, hgetA, hgetL, hgetLk, hsetA, hsetL, hsetLk, List.length_append, List.length_set, List.append_assoc, List.set_set, ha, ha_l, hm, hm_l, hi, h1, h1.symm, hk]
        refine kont_haxF cx_ok hb 200 mixed [(0, true), (1, true), (2, true), (4, true), (6, true), (7, true), (8, true), (9, true), (10, true), (11, true), (12, true), (13, true), (14, true)] [3, 5, 15, 16, 17] (by kernel_rfl) (by kernel_rfl) ?_
        simp only [go_sem, Nat.reduceAdd, Nat.reduceSub, Nat.reduceMul, Nat.reduceBEq, Nat.reduceLT, Nat.reduceLeDiff, Nat.reduceEqDiff, Int.reduceToNat, Int.reduceLE, Int.reduceLT, Int.reduceAdd, Int.reduceSub, Int.reduceNeg, Int.reduceBEq, Int.reduceBNe, Nat.reduceBNe, Nat.reduceDiv, Nat.reduceMod, hgetA, hgetL, hgetLk, hsetA, hsetL, hsetLk, List.length_append, List.length_set, List.append_assoc, List.set_set, ha, ha_l, hm, hm_l, hi, h1, h1.symm, hk, hgetS, hgetN, ↓reduceIte]
        have fin := new (.inr hk) h3
        simp only [go_sem, Nat.reduceAdd, Nat.reduceSub, Nat.reduceMul, Nat.reduceBEq, Nat.reduceLT, Nat.reduceLeDiff, Nat.reduceEqDiff, Int.reduceToNat, Int.reduceLE, Int.reduceLT, Int.reduceAdd, Int.reduceSub, Int.reduceNeg, Int.reduceBEq, Int.reduceBNe, Nat.reduceBNe, Nat.reduceDiv, Nat.reduceMod, Ev.pk, hi] at fin ⊢
        repeat' apply And.intro
        all_goals exact fin
      · simp only [Option.getD_some] at h2
        subst h2
        have h3 : h[lo]? = some ⟨.arr, g, 6, off + (W e.cls).length, row⟩ := h3
        have n1 : lo ≠ la := ne_of_get h3 ha (by show (6 : Nat) ≠ 17; decide)
        have n2 : lo ≠ lm := ne_of_get h3 hm (by show (6 : Nat) ≠ 3; decide)
        have hb4 : (W e.cls).length ≤ 4294967295 := by omega
        have h9 : (W e.cls).length + 1 ≤ 4294967295 := by omega
        refine MFn_hx cx_ok 200 Try.func39 rfl Try.ntmps39 Try.results39 rfl fun base w pl hb => ?_
        have ha_l := hlt ha
        have hm_l := hlt hm
        have h3_l := hlt h3
        simp only [go_sem, Nat.reduceAdd, Nat.reduceSub, Nat.reduceMul, Nat.reduceBEq, Nat.reduceLT, Nat.reduceLeDiff, Nat.reduceEqDiff, Int.reduceToNat, Int.reduceLE, Int.reduceLT, Int.reduceAdd, Int.reduceSub, Int.reduceNeg, Int.reduceBEq, Int.reduceBNe, Nat.reduceBNe, Nat.reduceDiv, Nat.reduceMod, hgetA, hgetL, hgetLk, hsetA, hsetL, hsetLk, List.length_append, List.length_set, List.append_assoc, List.set_set, ha, ha_l, hm, hm_l, h3, h3_l, hi, h1, h1.symm, hk, n1, n2, n1.symm, n2.symm]
        refine kont_haxF cx_ok hb 200 mixed [(0, true), (1, true), (2, true), (4, true), (6, true), (7, true), (8, true), (9, true), (10, true), (11, true), (12, true), (13, true), (14, true)] [3, 5, 15, 16, 17] (by kernel_rfl) (by kernel_rfl) ?_
        simp only [go_sem, Nat.reduceAdd, Nat.reduceSub, Nat.reduceMul, Nat.reduceBEq, Nat.reduceLT, Nat.reduceLeDiff, Nat.reduceEqDiff, Int.reduceToNat, Int.reduceLE, Int.reduceLT, Int.reduceAdd, Int.reduceSub, Int.reduceNeg, Int.reduceBEq, Int.reduceBNe, Nat.reduceBNe, Nat.reduceDiv, Nat.reduceMod, hgetA, hgetL, hgetLk, hsetA, hsetL, hsetLk, List.length_append, List.length_set, List.append_assoc, List.set_set, ha, ha_l, hm, hm_l, hi, h1, h1.symm, hk, hgetS, hgetN, h3, h3_l, n1, n2, n1.symm, n2.symm, ↓reduceIte, hb4, h9]
        have fin : TakePost h la lm x e done q (fun k' => if k' = e.cls then W e.cls ++ [e.pk] else W k')
            (((h.set la ⟨.one, 0, 17, 1, fun _ => aCells x lm e done q⟩).set lo ⟨.arr, g + 1, 6, (W e.cls).length + 1, appRow (W e.cls).length off row fun _ => e.pk.cells⟩).set lm (mset .i64 c es e.cls (.ref lo (g + 1) 0 ((W e.cls).length + 1))) ++ [⟨.one, 0, 12, 1, fun _ => e.cells⟩, ⟨.arr, 0, 6, 1, fun _ => e.pk.cells⟩]) := by
          refine takePost_of (lo := lo) (d := .ref lo (g + 1) 0 ((W e.cls).length + 1)) hW ha rfl hm ?_ ?_ (.inr ⟨lo, g + 1, 0, appRow (W e.cls).length off row fun _ => e.pk.cells, by simp, ?_, ?_⟩) (fun l g off n e => by cases e; rfl) (fun k' l g' off' n' hne' hk' e => ?_) (fun l o ho n1 n2 n3 => ?_) (fun o ho => by rw [h3] at ho; cases ho; rfl)
          · rw [hgetA (by simpa using ha_l), hgetN h1.symm, hgetN n1, hgetS ha_l]
          · rw [hgetA (by simpa using hm_l), hgetS (by simpa using hm_l)]
          · rw [hgetA (by simpa using h3_l), hgetN n2.symm, hgetS (by simpa using h3_l)]
            simp
          · intro i hi
            simp at hi
            rw [Nat.zero_add]
            by_cases hlt2 : i < (W e.cls).length
            · rw [appRow_lt hlt2, h4 i hlt2]; simp [hlt2, List.getElem?_append_left hlt2]
            · have : i = (W e.cls).length := by omega
              subst this
              rw [appRow_ge (Nat.le_refl _)]; simp
          · subst e; exact hne' (hW.sep _ _ _ _ _ _ _ _ _ hk' hk)
          · have := hlt ho
            rw [hgetA (by simpa using this), hgetN (Ne.symm n2), hgetN (Ne.symm n3), hgetN (Ne.symm n1), ho]
        simp only [go_sem, Nat.reduceAdd, Nat.reduceSub, Nat.reduceMul, Nat.reduceBEq, Nat.reduceLT, Nat.reduceLeDiff, Nat.reduceEqDiff, Int.reduceToNat, Int.reduceLE, Int.reduceLT, Int.reduceAdd, Int.reduceSub, Int.reduceNeg, Int.reduceBEq, Int.reduceBNe, Nat.reduceBNe, Nat.reduceDiv, Nat.reduceMod, Ev.pk, hi] at fin ⊢
        repeat' apply And.intro
        all_goals exact fin
  | false => 
    have hst : stepW W e = fun k' => if k' = e.cls then (W e.cls).tail else W k' := by
      funext k; unfold stepW; rw [hi]; by_cases hk : k = e.cls <;> simp [hk]
    rw [hst]
    have hne := hne hi
    cases hk : alook es e.cls with
    | none =>
      rw [hk] at hp
      exact absurd hp.nil hne
    | some d =>
      rw [hk] at hp
      rcases hp with ⟨h2, h3⟩ | ⟨lo, g, off, row, h2, h3, h4⟩
      · exact absurd h3 hne
      · simp only [Option.getD_some] at h2
        subst h2
        have h3 : h[lo]? = some ⟨.arr, g, 6, off + (W e.cls).length, row⟩ := h3
        have n1 : lo ≠ la := ne_of_get h3 ha (by show (6 : Nat) ≠ 17; decide)
        have n2 : lo ≠ lm := ne_of_get h3 hm (by show (6 : Nat) ≠ 3; decide)
        have hpos : 0 < (W e.cls).length := List.length_pos_iff.2 hne
        refine MFn_hx cx_ok 200 Try.func39 rfl Try.ntmps39 Try.results39 rfl fun base w pl hb => ?_
        have ha_l := hlt ha
        have hm_l := hlt hm
        have h3_l := hlt h3
        simp only [go_sem, Nat.reduceAdd, Nat.reduceSub, Nat.reduceMul, Nat.reduceBEq, Nat.reduceLT, Nat.reduceLeDiff, Nat.reduceEqDiff, Int.reduceToNat, Int.reduceLE, Int.reduceLT, Int.reduceAdd, Int.reduceSub, Int.reduceNeg, Int.reduceBEq, Int.reduceBNe, Nat.reduceBNe, Nat.reduceDiv, Nat.reduceMod, hgetA, hgetL, hgetLk, hsetA, hsetL, hsetLk, List.length_append, List.length_set, List.append_assoc, List.set_set, ha, ha_l, hm, hm_l, h3, h3_l, hi, h1, h1.symm, hk, n1, n2, n1.symm, n2.symm, hgetS, hgetN]
        refine kont_hax cx_ok hb 200 mixed [(0, true), (1, true), (2, true), (3, true), (4, true), (5, true), (6, true), (7, true), (8, true), (9, true), (10, true), (11, true), (12, true), (13, true), (14, false)] (by kernel_rfl) (by kernel_rfl) ?_
        simp only [go_sem, Nat.reduceAdd, Nat.reduceSub, Nat.reduceMul, Nat.reduceBEq, Nat.reduceLT, Nat.reduceLeDiff, Nat.reduceEqDiff, Int.reduceToNat, Int.reduceLE, Int.reduceLT, Int.reduceAdd, Int.reduceSub, Int.reduceNeg, Int.reduceBEq, Int.reduceBNe, Nat.reduceBNe, Nat.reduceDiv, Nat.reduceMod, hgetA, hgetL, hgetLk, hsetA, hsetL, hsetLk, List.length_append, List.length_set, List.append_assoc, List.set_set, ha, ha_l, hm, hm_l, hi, h1, h1.symm, hk, hgetS, hgetN, h3, h3_l, n1, n2, n1.symm, n2.symm, ↓reduceIte]
        have fin : TakePost h la lm x e e.done q (fun k' => if k' = e.cls then (W e.cls).tail else W k')
            ((h.set la ⟨.one, 0, 17, 1, fun _ => aCells x lm e e.done q⟩).set lm (mset .i64 c es e.cls (.ref lo g (off + 1) ((W e.cls).length - 1))) ++ [⟨.one, 0, 12, 1, fun _ => e.cells⟩]) := by
          refine takePost_of (lo := lo) (d := .ref lo g (off + 1) ((W e.cls).length - 1)) hW ha rfl hm ?_ ?_ (.inr ⟨lo, g, off + 1, row, by simp, ?_, ?_⟩) (fun l g off n e => by cases e; rfl) (fun k' l g' off' n' hne' hk' e => ?_) (fun l o ho n1 n2 n3 => ?_) (fun o ho => by rw [h3] at ho; cases ho; rfl)
          · rw [hgetA (by simpa using ha_l), hgetN h1.symm, hgetS ha_l]
          · rw [hgetA (by simpa using hm_l), hgetS (by simpa using hm_l)]
          · rw [hgetA (by simpa using h3_l), hgetN n2.symm, hgetN n1.symm, h3]
            simp; omega
          · intro i hi
            simp at hi
            rw [show off + 1 + i = off + (i + 1) by omega, h4 (i + 1) (by omega)]
            cases hw : W e.cls with
            | nil => rw [hw] at hpos; simp at hpos
            | cons a r => simp
          · subst e; exact hne' (hW.sep _ _ _ _ _ _ _ _ _ hk' hk)
          · have := hlt ho
            rw [hgetA (by simpa using this), hgetN (Ne.symm n2), hgetN (Ne.symm n1), ho]
        have htn : (((W e.cls).length : Int) - 1).toNat = (W e.cls).length - 1 := by omega
        simp only [go_sem, Nat.reduceAdd, Nat.reduceSub, Nat.reduceMul, Nat.reduceBEq, Nat.reduceLT, Nat.reduceLeDiff, Nat.reduceEqDiff, Int.reduceToNat, Int.reduceLE, Int.reduceLT, Int.reduceAdd, Int.reduceSub, Int.reduceNeg, Int.reduceBEq, Int.reduceBNe, Nat.reduceBNe, Nat.reduceDiv, Nat.reduceMod, Ev.pk, hi, htn] at fin ⊢
        exact ⟨by omega, fin⟩
end Go.Fg.X
