/- Walks of the functions that the statement reaches. No conditions: contracts and laws. -/
import Derived.Test.YtiiaocpkjmiacaaYHa
namespace Go.Fg.X
open Go.Proofs Go.Fg
set_option maxRecDepth 100000
set_option maxHeartbeats 4000000
set_option linter.unusedSimpArgs false
set_option linter.unusedVariables false
def delE (L : List Kls) (id : Int) : Int := if (findC L id).isNone then 6 else if childC L id ≠ [] then 23 else 0
section
variable (h : List Ob) (t m c : Nat) {es : List Ent} {L : List Kls} (T : TreeIs es L) (hlen : L.length < 1000000)
  (ht : h[t]? = some ⟨.one, 0, 1, 1, fun _ => [.mref m 0]⟩) (hm : h[m]? = some (mapOb .i64 c es))
include T ht hm hlen
omit hlen T in
theorem TreeAt.put {c' : Nat} {es' : List Ent} {L' : List Kls} (T' : TreeIs es' L') (g : List Ob) : TreeAt h t m L' (h.set m (mapOb .i64 c' es') ++ g) := by
  have hm_l := hlt hm
  have ht_l := hlt ht
  have hne : m ≠ t := by rintro rfl; rw [ht] at hm; cases hm
  refine ⟨⟨c', es', ?_, ?_, T'⟩, by simp, fun l hl hl2 => ?_⟩
  · rw [hgetA (by simpa using ht_l), hgetN hne]; exact ht
  · rw [hgetA (by simpa using hm_l), hgetS hm_l]
  · rw [hgetA (by simpa using hl), hgetN (Ne.symm hl2)]
theorem hdel_ok (id : Int) : MFn Try.prog 32 h [.ptr t 0 0 0, dint id] (fun d h' => d = dint (delE L id) ∧ TreeAt h t m (if delE L id = 0 then delC L id else L) h') := by
  have hk := T.look id
  have ht_l := hlt ht
  have hm_l := hlt hm
  obtain ⟨E, hE0⟩ : ∃ E, E = delE L id := ⟨_, rfl⟩
  rw [← hE0]
  have bad : ∀ g : List Ob, E ≠ 0 → TreeAt h t m (if E = 0 then delC L id else L) (h ++ g) := fun g hne => by rw [if_neg hne]; exact TreeAt.same h t m c ht hm T g
  cases hf : findC L id with
  | none =>
    have e : E = 6 := by rw [hE0, delE, if_pos (by simp [hf])]
    rw [hf, Option.map_none] at hk
    refine MFn_hx cx_ok 200 Try.func32 rfl Try.ntmps32 Try.results32 rfl fun base w pl hb => ?_
    have ht_l := hlt ht
    have hm_l := hlt hm
    simp only [go_sem, Nat.reduceAdd, Nat.reduceSub, Nat.reduceMul, Nat.reduceBEq, Nat.reduceLT, Nat.reduceLeDiff, Nat.reduceEqDiff, Int.reduceToNat, Int.reduceLE, Int.reduceLT, Int.reduceAdd, Int.reduceSub, Int.reduceNeg, Int.reduceBEq, Int.reduceBNe, Nat.reduceBNe, Nat.reduceDiv, Nat.reduceMod, hgetA, hgetL, hgetLk, hsetA, hsetL, hsetLk, List.length_append, List.length_set, List.append_assoc, List.set_set, ht, ht_l, hm, hm_l, hk]
    exact ⟨by rw [e], bad _ (by rw [e]; decide)⟩
  | some x =>
    rw [hf, Option.map_some] at hk
    have a1 : E = if childC L id ≠ [] then 23 else 0 := by rw [hE0, delE, if_neg (by simp [hf])]
    refine MFn_hx cx_ok 200 Try.func32 rfl Try.ntmps32 Try.results32 rfl fun base w pl hb => ?_
    have ht_l := hlt ht
    have hm_l := hlt hm
    simp only [go_sem, Nat.reduceAdd, Nat.reduceSub, Nat.reduceMul, Nat.reduceBEq, Nat.reduceLT, Nat.reduceLeDiff, Nat.reduceEqDiff, Int.reduceToNat, Int.reduceLE, Int.reduceLT, Int.reduceAdd, Int.reduceSub, Int.reduceNeg, Int.reduceBEq, Int.reduceBNe, Nat.reduceBNe, Nat.reduceDiv, Nat.reduceMod, hgetA, hgetL, hgetLk, hsetA, hsetL, hsetLk, List.length_append, List.length_set, List.append_assoc, List.set_set, ht, ht_l, hm, hm_l, hk]
    refine kont_callR hb fn58 rfl ?_ (hchildren_ok _ t m c T hlen (ro_app ht) (ro_app hm) id) rfl fun d g hs => ?_
    · simp only [go_sem, Nat.reduceAdd, Nat.reduceSub, Nat.reduceMul, Nat.reduceBEq, Nat.reduceLT, Nat.reduceLeDiff, Nat.reduceEqDiff, Int.reduceToNat, Int.reduceLE, Int.reduceLT, Int.reduceAdd, Int.reduceSub, Int.reduceNeg, Int.reduceBEq, Int.reduceBNe, Nat.reduceBNe, Nat.reduceDiv, Nat.reduceMod]
    rcases hs with ⟨rfl, h0⟩ | ⟨lo, gn, off, row, rfl, hlo, ho, hr⟩
    · have e : E = 0 := by rw [a1, if_neg (by simp [h0])]
      refine kont_of_hx cx_ok hb 200 ?_
      simp only [go_sem, Nat.reduceAdd, Nat.reduceSub, Nat.reduceMul, Nat.reduceBEq, Nat.reduceLT, Nat.reduceLeDiff, Nat.reduceEqDiff, Int.reduceToNat, Int.reduceLE, Int.reduceLT, Int.reduceAdd, Int.reduceSub, Int.reduceNeg, Int.reduceBEq, Int.reduceBNe, Nat.reduceBNe, Nat.reduceDiv, Nat.reduceMod, hgetA, hgetL, hgetLk, hsetA, hsetL, hsetLk, List.length_append, List.length_set, List.append_assoc, List.set_set, ht, hm, ht_l, hm_l]
      rw [if_pos e]
      exact ⟨by rw [e], TreeAt.put h t m c ht hm (adel_tree T id) _⟩
    · have ho_l := hlt ho
      refine kont_of_hx cx_ok hb 200 ?_
      by_cases h0 : childC L id = []
      · have e : E = 0 := by rw [a1, if_neg (by simp [h0])]
        simp only [go_sem, Nat.reduceAdd, Nat.reduceSub, Nat.reduceMul, Nat.reduceBEq, Nat.reduceLT, Nat.reduceLeDiff, Nat.reduceEqDiff, Int.reduceToNat, Int.reduceLE, Int.reduceLT, Int.reduceAdd, Int.reduceSub, Int.reduceNeg, Int.reduceBEq, Int.reduceBNe, Nat.reduceBNe, Nat.reduceDiv, Nat.reduceMod, hgetA, hgetL, hgetLk, hsetA, hsetL, hsetLk, List.length_append, List.length_set, List.append_assoc, List.set_set, ht, hm, ht_l, hm_l, ho, ho_l, h0]
        rw [if_pos e]
        exact ⟨by rw [e], TreeAt.put h t m c ht hm (adel_tree T id) _⟩
      · have e : E = 23 := by rw [a1, if_pos h0]
        have hpos : 0 < (childC L id).length := List.length_pos_iff.2 h0
        have hpi : (0 : Int) < ((childC L id).length : Int) := by omega
        simp only [go_sem, Nat.reduceAdd, Nat.reduceSub, Nat.reduceMul, Nat.reduceBEq, Nat.reduceLT, Nat.reduceLeDiff, Nat.reduceEqDiff, Int.reduceToNat, Int.reduceLE, Int.reduceLT, Int.reduceAdd, Int.reduceSub, Int.reduceNeg, Int.reduceBEq, Int.reduceBNe, Nat.reduceBNe, Nat.reduceDiv, Nat.reduceMod, hgetA, hgetL, hgetLk, hsetA, hsetL, hsetLk, List.length_append, List.length_set, List.append_assoc, List.set_set, ht, hm, ht_l, hm_l, ho, ho_l, hpi, decide_eq_true hpi]
        exact ⟨by rw [e], bad _ (by rw [e]; decide)⟩
end
end Go.Fg.X
namespace Go.Fg.X
open Go.Proofs Go.Fg
set_option maxRecDepth 100000
set_option maxHeartbeats 4000000
set_option linter.unusedSimpArgs false
set_option linter.unusedVariables false
theorem roro_map (h : List Ob) : (h.map Ob.ro).map Ob.ro = h.map Ob.ro := by rw [List.map_map]; exact List.map_congr_left fun o _ => ro_ro o
/-- What a function value tells of a number, whatever is lent to it. -/
def TellsI (F : List Ob) (f nf : Nat) (caps : List D) (g : Int → Bool) : Prop := ∀ (h : List Ob) (n : Int), ExtF F h → RFn0 Try.prog f h (argsD nf caps [dint n]) (fun d => d = dbool (g n))
def firstI (g : Int → Bool) (l : List Int) : Int := match l.findIdx? g with
  | some i => i
  | none => -1
theorem firstI_at {g : Int → Bool} {l : List Int} {k : Nat} (hk : k < l.length) (h : ∀ i, i < k → g (l.getD i 0) = false) (hg : g (l.getD k 0) = true) : firstI g l = k := by
  have e : l.findIdx? g = some k := by
    rw [List.findIdx?_eq_some_iff_getElem]
    refine ⟨hk, by simpa [List.getD_eq_getElem?_getD, hk] using hg, fun i hi => ?_⟩
    have := h i hi
    simpa [List.getD_eq_getElem?_getD, show i < l.length by omega] using this
  rw [firstI, e]
theorem firstI_none {g : Int → Bool} {l : List Int} (h : ∀ i, i < l.length → g (l.getD i 0) = false) : firstI g l = -1 := by
  have e : l.findIdx? g = none := by
    rw [List.findIdx?_eq_none_iff]
    intro x hx
    obtain ⟨i, hi, rfl⟩ := List.getElem_of_mem hx
    have := h i hi
    simpa [List.getD_eq_getElem?_getD, hi] using this
  rw [firstI, e]
section
variable (h : List Ob) (l : List Int) (lo gn off : Nat) (row : Nat → List D) (hlen : l.length < 1000000) (ho : (h.map Ob.ro)[lo]? = some ⟨.rarr, gn, 1, off + l.length, row⟩) (hr : ∀ i, i < l.length → row (off + i) = [dint (l.getD i 0)])
include hlen ho hr
theorem indexFunc_ok (so : D) (f nf : Nat) (caps : List D) (hf : FnOk Try.prog f) (hso : calleeD so = some (f, nf, caps)) (gk : Int → Bool) (hg : TellsI (h.map Ob.ro) f nf caps gk) :
    RFn0 Try.prog 98 h [.ref lo gn off l.length, so] (fun d => d = dint (firstI gk l)) := by
  refine RFn0_hx cx_ok 200 Try.func98 rfl Try.ntmps98 Try.results98 rfl fun base w pl F hF hFl hb => ?_
  rw [← hF] at ho
  have ho_l := hlt ho
  simp only [go_sem, Nat.reduceAdd, Nat.reduceSub, Nat.reduceMul, Nat.reduceBEq, Nat.reduceLT, Nat.reduceLeDiff, Nat.reduceEqDiff, Int.reduceToNat, Int.reduceLE, Int.reduceLT, Int.reduceAdd, Int.reduceSub, Int.reduceNeg, Int.reduceBEq, Int.reduceBNe, Nat.reduceBNe, Nat.reduceDiv, Nat.reduceMod, hgetA, hgetL, hgetLk, hsetA, hsetL, hsetLk, List.length_append, List.length_set, List.append_assoc, List.set_set, ho, ho_l]
  refine kont_for (fun k s => (∀ i, i < k → gk (l.getD i 0) = false) ∧ s = ⟨[(0, .ref lo gn off l.length), (1, so), (7, dint l.length), (8, dint k)], F⟩) l.length (Weak.frame (by simp only [go_sem, Nat.reduceAdd, Nat.reduceSub, Nat.reduceMul, Nat.reduceBEq, Nat.reduceLT, Nat.reduceLeDiff, Nat.reduceEqDiff, Int.reduceToNat, Int.reduceLE, Int.reduceLT, Int.reduceAdd, Int.reduceSub, Int.reduceNeg, Int.reduceBEq, Int.reduceBNe, Nat.reduceBNe, Nat.reduceDiv, Nat.reduceMod])) ⟨fun i hi => absurd hi (by omega), rfl⟩ ?_
  rintro k s hk ⟨hn, rfl⟩
  refine kont_of_hx cx_ok hb 200 ?_
  simp only [go_sem, Nat.reduceAdd, Nat.reduceSub, Nat.reduceMul, Nat.reduceBEq, Nat.reduceLT, Nat.reduceLeDiff, Nat.reduceEqDiff, Int.reduceToNat, Int.reduceLE, Int.reduceLT, Int.reduceAdd, Int.reduceSub, Int.reduceNeg, Int.reduceBEq, Int.reduceBNe, Nat.reduceBNe, Nat.reduceDiv, Nat.reduceMod, hgetA, hgetL, hgetLk, hsetA, hsetL, hsetLk, List.length_append, List.length_set, List.append_assoc, List.set_set]
  have ho_l := hlt ho
  have hwr := wrap_succ (show k < 4611686018427387904 by omega)
  first | refine hite_lt hk (fun hk1 => ?_) (fun hk1 => ?_) | refine hite_ltI hk (fun hk1 => ?_) (fun hk1 => ?_)
  · have hrk := hr k hk1
    have hk3 : off + k < off + l.length := by omega
    simp only [go_sem, Nat.reduceAdd, Nat.reduceSub, Nat.reduceMul, Nat.reduceBEq, Nat.reduceLT, Nat.reduceLeDiff, Nat.reduceEqDiff, Int.reduceToNat, Int.reduceLE, Int.reduceLT, Int.reduceAdd, Int.reduceSub, Int.reduceNeg, Int.reduceBEq, Int.reduceBNe, Nat.reduceBNe, Nat.reduceDiv, Nat.reduceMod, hgetA, hgetL, hgetLk, hsetA, hsetL, hsetLk, List.length_append, List.length_set, List.append_assoc, List.set_set, ho, ho_l, hk1, hrk, hk3]
    refine kont_callR0 hb hf hso ?_ (hg F (l.getD k 0) (by rw [← hF]; exact ExtF.refl F)) rfl fun d2 hR => ?_
    · simp only [go_sem, Nat.reduceAdd, Nat.reduceSub, Nat.reduceMul, Nat.reduceBEq, Nat.reduceLT, Nat.reduceLeDiff, Nat.reduceEqDiff, Int.reduceToNat, Int.reduceLE, Int.reduceLT, Int.reduceAdd, Int.reduceSub, Int.reduceNeg, Int.reduceBEq, Int.reduceBNe, Nat.reduceBNe, Nat.reduceDiv, Nat.reduceMod]
      exact argsEq_refl _
    subst hR
    refine kont_of_hx cx_ok hb 200 ?_
    cases hgk : gk (l.getD k 0)
    · simp only [go_sem, Nat.reduceAdd, Nat.reduceSub, Nat.reduceMul, Nat.reduceBEq, Nat.reduceLT, Nat.reduceLeDiff, Nat.reduceEqDiff, Int.reduceToNat, Int.reduceLE, Int.reduceLT, Int.reduceAdd, Int.reduceSub, Int.reduceNeg, Int.reduceBEq, Int.reduceBNe, Nat.reduceBNe, Nat.reduceDiv, Nat.reduceMod, hgetA, hgetL, hgetLk, hsetA, hsetL, hsetLk, List.length_append, List.length_set, List.append_assoc, List.set_set]
      refine ⟨hk1, _, Weak.frame (by simp only [go_sem, Nat.reduceAdd, Nat.reduceSub, Nat.reduceMul, Nat.reduceBEq, Nat.reduceLT, Nat.reduceLeDiff, Nat.reduceEqDiff, Int.reduceToNat, Int.reduceLE, Int.reduceLT, Int.reduceAdd, Int.reduceSub, Int.reduceNeg, Int.reduceBEq, Int.reduceBNe, Nat.reduceBNe, Nat.reduceDiv, Nat.reduceMod, hwr]), fun i hi => ?_, rfl⟩
      by_cases h1 : i < k
      · exact hn i h1
      · have : i = k := by omega
        subst this; exact hgk
    · rw [firstI_at hk1 hn hgk]
      simp only [go_sem, Nat.reduceAdd, Nat.reduceSub, Nat.reduceMul, Nat.reduceBEq, Nat.reduceLT, Nat.reduceLeDiff, Nat.reduceEqDiff, Int.reduceToNat, Int.reduceLE, Int.reduceLT, Int.reduceAdd, Int.reduceSub, Int.reduceNeg, Int.reduceBEq, Int.reduceBNe, Nat.reduceBNe, Nat.reduceDiv, Nat.reduceMod, hgetA, hgetL, hgetLk, hsetA, hsetL, hsetLk, List.length_append, List.length_set, List.append_assoc, List.set_set]
      exact ⟨[], (List.append_nil F).symm⟩
  · have hk1 : k = l.length := by omega
    subst hk1
    simp only [go_sem, Nat.reduceAdd, Nat.reduceSub, Nat.reduceMul, Nat.reduceBEq, Nat.reduceLT, Nat.reduceLeDiff, Nat.reduceEqDiff, Int.reduceToNat, Int.reduceLE, Int.reduceLT, Int.reduceAdd, Int.reduceSub, Int.reduceNeg, Int.reduceBEq, Int.reduceBNe, Nat.reduceBNe, Nat.reduceDiv, Nat.reduceMod, Nat.lt_irrefl]
    rw [firstI_none hn]
    refine kont_of_hx cx_ok hb 200 ?_
    simp only [go_sem, Nat.reduceAdd, Nat.reduceSub, Nat.reduceMul, Nat.reduceBEq, Nat.reduceLT, Nat.reduceLeDiff, Nat.reduceEqDiff, Int.reduceToNat, Int.reduceLE, Int.reduceLT, Int.reduceAdd, Int.reduceSub, Int.reduceNeg, Int.reduceBEq, Int.reduceBNe, Nat.reduceBNe, Nat.reduceDiv, Nat.reduceMod, hgetA, hgetL, hgetLk, hsetA, hsetL, hsetLk, List.length_append, List.length_set, List.append_assoc, List.set_set]
    exact ⟨[], (List.append_nil F).symm⟩
theorem containsFunc_ok (so : D) (f nf : Nat) (caps : List D) (hf : FnOk Try.prog f) (hso : calleeD so = some (f, nf, caps)) (gk : Int → Bool) (hg : TellsI (h.map Ob.ro) f nf caps gk) :
    RFn0 Try.prog 60 h [.ref lo gn off l.length, so] (fun d => d = dbool (decide (0 ≤ firstI gk l))) := by
  refine RFn0_hx cx_ok 200 Try.func60 rfl Try.ntmps60 Try.results60 rfl fun base w pl F hF hFl hb => ?_
  rw [← hF] at ho
  have ho_l := hlt ho
  simp only [go_sem, Nat.reduceAdd, Nat.reduceSub, Nat.reduceMul, Nat.reduceBEq, Nat.reduceLT, Nat.reduceLeDiff, Nat.reduceEqDiff, Int.reduceToNat, Int.reduceLE, Int.reduceLT, Int.reduceAdd, Int.reduceSub, Int.reduceNeg, Int.reduceBEq, Int.reduceBNe, Nat.reduceBNe, Nat.reduceDiv, Nat.reduceMod, hgetA, hgetL, hgetLk, hsetA, hsetL, hsetLk, List.length_append, List.length_set, List.append_assoc, List.set_set, ho, ho_l]
  refine kont_callR0 hb fn98 rfl ?_ (indexFunc_ok F l lo gn off row hlen (ro_get ho) hr so f nf caps hf hso gk (fun h' n hx => ?_)) rfl fun d2 hR => ?_
  · simp only [go_sem, Nat.reduceAdd, Nat.reduceSub, Nat.reduceMul, Nat.reduceBEq, Nat.reduceLT, Nat.reduceLeDiff, Nat.reduceEqDiff, Int.reduceToNat, Int.reduceLE, Int.reduceLT, Int.reduceAdd, Int.reduceSub, Int.reduceNeg, Int.reduceBEq, Int.reduceBNe, Nat.reduceBNe, Nat.reduceDiv, Nat.reduceMod]
    exact argEq_refl so
  · rw [hF, roro_map] at hx
    exact hg h' n hx
  subst hR
  refine kont_of_hx cx_ok hb 200 ?_
  simp only [go_sem, Nat.reduceAdd, Nat.reduceSub, Nat.reduceMul, Nat.reduceBEq, Nat.reduceLT, Nat.reduceLeDiff, Nat.reduceEqDiff, Int.reduceToNat, Int.reduceLE, Int.reduceLT, Int.reduceAdd, Int.reduceSub, Int.reduceNeg, Int.reduceBEq, Int.reduceBNe, Nat.reduceBNe, Nat.reduceDiv, Nat.reduceMod, hgetA, hgetL, hgetLk, hsetA, hsetL, hsetLk, List.length_append, List.length_set, List.append_assoc, List.set_set]
  exact ⟨[], (List.append_nil F).symm⟩
end
theorem indexFuncN_ok (h : List Ob) (so : D) : RFn0 Try.prog 98 h [.nil, so] (fun d => d = dint (-1)) := by
  refine RFn0_hx cx_ok 200 Try.func98 rfl Try.ntmps98 Try.results98 rfl fun base w pl F hF hFl hb => ?_
  simp only [go_sem, Nat.reduceAdd, Nat.reduceSub, Nat.reduceMul, Nat.reduceBEq, Nat.reduceLT, Nat.reduceLeDiff, Nat.reduceEqDiff, Int.reduceToNat, Int.reduceLE, Int.reduceLT, Int.reduceAdd, Int.reduceSub, Int.reduceNeg, Int.reduceBEq, Int.reduceBNe, Nat.reduceBNe, Nat.reduceDiv, Nat.reduceMod, hgetA, hgetL, hgetLk, hsetA, hsetL, hsetLk, List.length_append, List.length_set, List.append_assoc, List.set_set]
  refine kont_for (fun k s => s = ⟨[(7, dint 0), (8, dint 0)], F⟩) 0 (Weak.frame (by simp only [go_sem, Nat.reduceAdd, Nat.reduceSub, Nat.reduceMul, Nat.reduceBEq, Nat.reduceLT, Nat.reduceLeDiff, Nat.reduceEqDiff, Int.reduceToNat, Int.reduceLE, Int.reduceLT, Int.reduceAdd, Int.reduceSub, Int.reduceNeg, Int.reduceBEq, Int.reduceBNe, Nat.reduceBNe, Nat.reduceDiv, Nat.reduceMod])) rfl ?_
  rintro k s hk rfl
  refine kont_of_hx cx_ok hb 200 ?_
  simp only [go_sem, Nat.reduceAdd, Nat.reduceSub, Nat.reduceMul, Nat.reduceBEq, Nat.reduceLT, Nat.reduceLeDiff, Nat.reduceEqDiff, Int.reduceToNat, Int.reduceLE, Int.reduceLT, Int.reduceAdd, Int.reduceSub, Int.reduceNeg, Int.reduceBEq, Int.reduceBNe, Nat.reduceBNe, Nat.reduceDiv, Nat.reduceMod, hgetA, hgetL, hgetLk, hsetA, hsetL, hsetLk, List.length_append, List.length_set, List.append_assoc, List.set_set]
  refine kont_of_hx cx_ok hb 200 ?_
  simp only [go_sem, Nat.reduceAdd, Nat.reduceSub, Nat.reduceMul, Nat.reduceBEq, Nat.reduceLT, Nat.reduceLeDiff, Nat.reduceEqDiff, Int.reduceToNat, Int.reduceLE, Int.reduceLT, Int.reduceAdd, Int.reduceSub, Int.reduceNeg, Int.reduceBEq, Int.reduceBNe, Nat.reduceBNe, Nat.reduceDiv, Nat.reduceMod, hgetA, hgetL, hgetLk, hsetA, hsetL, hsetLk, List.length_append, List.length_set, List.append_assoc, List.set_set]
  exact ⟨[], (List.append_nil F).symm⟩
theorem containsFuncN_ok (h : List Ob) (so : D) : RFn0 Try.prog 60 h [.nil, so] (fun d => d = dbool false) := by
  refine RFn0_hx cx_ok 200 Try.func60 rfl Try.ntmps60 Try.results60 rfl fun base w pl F hF hFl hb => ?_
  simp only [go_sem, Nat.reduceAdd, Nat.reduceSub, Nat.reduceMul, Nat.reduceBEq, Nat.reduceLT, Nat.reduceLeDiff, Nat.reduceEqDiff, Int.reduceToNat, Int.reduceLE, Int.reduceLT, Int.reduceAdd, Int.reduceSub, Int.reduceNeg, Int.reduceBEq, Int.reduceBNe, Nat.reduceBNe, Nat.reduceDiv, Nat.reduceMod, hgetA, hgetL, hgetLk, hsetA, hsetL, hsetLk, List.length_append, List.length_set, List.append_assoc, List.set_set]
  refine kont_callR0 hb fn98 rfl ?_ (indexFuncN_ok F so) rfl fun d2 hR => ?_
  · simp only [go_sem, Nat.reduceAdd, Nat.reduceSub, Nat.reduceMul, Nat.reduceBEq, Nat.reduceLT, Nat.reduceLeDiff, Nat.reduceEqDiff, Int.reduceToNat, Int.reduceLE, Int.reduceLT, Int.reduceAdd, Int.reduceSub, Int.reduceNeg, Int.reduceBEq, Int.reduceBNe, Nat.reduceBNe, Nat.reduceDiv, Nat.reduceMod]
    exact argEq_refl so
  subst hR
  refine kont_of_hx cx_ok hb 200 ?_
  simp only [go_sem, Nat.reduceAdd, Nat.reduceSub, Nat.reduceMul, Nat.reduceBEq, Nat.reduceLT, Nat.reduceLeDiff, Nat.reduceEqDiff, Int.reduceToNat, Int.reduceLE, Int.reduceLT, Int.reduceAdd, Int.reduceSub, Int.reduceNeg, Int.reduceBEq, Int.reduceBNe, Nat.reduceBNe, Nat.reduceDiv, Nat.reduceMod, hgetA, hgetL, hgetLk, hsetA, hsetL, hsetLk, List.length_append, List.length_set, List.append_assoc, List.set_set]
  exact ⟨[], (List.append_nil F).symm⟩
theorem firstI_any (g : Int → Bool) (l : List Int) : decide (0 ≤ firstI g l) = l.any g := by
  unfold firstI
  cases h : l.findIdx? g with
  | some i =>
    have := List.findIdx?_eq_some_iff_getElem.1 h
    obtain ⟨h1, h2, _⟩ := this
    have e : l.any g = true := List.any_eq_true.2 ⟨_, List.getElem_mem h1, h2⟩
    rw [e]; simp
  | none =>
    have := List.findIdx?_eq_none_iff.1 h
    have e : l.any g = false := by rw [List.any_eq_false]; intro x hx; simp [this x hx]
    rw [e]; decide
end Go.Fg.X
namespace Go.Fg.X
open Go.Proofs Go.Fg
set_option maxRecDepth 100000
set_option maxHeartbeats 4000000
set_option linter.unusedSimpArgs false
set_option linter.unusedVariables false
def sharing (L : List Kls) (id : Int) : Bool := decide (1 < ofI ((findC L id).getD default).ls)
def setE (L : List Kls) (x : Kls) : Int :=
  if rightV x ≠ 0 then rightV x
  else if (findC L x.iD).isNone then 6
  else if x.parent ≠ ((findC L x.iD).getD default).parent ∨ x.leaf ≠ ((findC L x.iD).getD default).leaf then 1
  else if (1 < ofI x.ls ∧ sharesC L x.parent = false) ∨ (¬ 1 < ofI x.ls ∧ (childC L x.iD).any (sharing L) = true) then 29
  else 0
section
variable (h : List Ob) (t m c tb : Nat) {es : List Ent} {L : List Kls} (T : TreeIs es L)
  (ht : (h.map Ob.ro)[t]? = some ⟨.rone, 0, 1, 1, fun _ => [.mref m 0]⟩) (hm : (h.map Ob.ro)[m]? = some (mapOb .i64 c es).ro)
  (hb0 : (h.map Ob.ro)[tb]? = some ⟨.rone, 0, 1, 1, fun _ => [.ptr t 0 0 0]⟩)
include T ht hm hb0
theorem hset1_ok (id : Int) : RFn0 Try.prog 59 h [dint id, .ptr tb 0 0 0] (fun d => d = dbool (sharing L id)) := by
  have hk := T.look id
  unfold sharing
  cases hf : findC L id with
  | none =>
    rw [hf, Option.map_none] at hk
    refine RFn0_hx cx_ok 200 Try.func59 rfl Try.ntmps59 Try.results59 rfl fun base w pl F hF hFl hb => ?_
    rw [← hF] at ht hm hb0
    have ht_l := hlt ht
    have hm_l := hlt hm
    have hb0_l := hlt hb0
    simp only [go_sem, Nat.reduceAdd, Nat.reduceSub, Nat.reduceMul, Nat.reduceBEq, Nat.reduceLT, Nat.reduceLeDiff, Nat.reduceEqDiff, Int.reduceToNat, Int.reduceLE, Int.reduceLT, Int.reduceAdd, Int.reduceSub, Int.reduceNeg, Int.reduceBEq, Int.reduceBNe, Nat.reduceBNe, Nat.reduceDiv, Nat.reduceMod, hgetA, hgetL, hgetLk, hsetA, hsetL, hsetLk, List.length_append, List.length_set, List.append_assoc, List.set_set, ht, ht_l, hm, hm_l, hb0, hb0_l, hk]
    refine kont_call hb fn55 rfl ?_ (sshares_ok ⟨0, 0, false, ⟨0, 0, 0⟩, ⟨0, 0, 0⟩, ⟨0, 0, 0⟩, 0, 0⟩) (Ret.flat rfl) rfl fun d h hR => ?_
    · simp only [go_sem, Nat.reduceAdd, Nat.reduceSub, Nat.reduceMul, Nat.reduceBEq, Nat.reduceLT, Nat.reduceLeDiff, Nat.reduceEqDiff, Int.reduceToNat, Int.reduceLE, Int.reduceLT, Int.reduceAdd, Int.reduceSub, Int.reduceNeg, Int.reduceBEq, Int.reduceBNe, Nat.reduceBNe, Nat.reduceDiv, Nat.reduceMod, hgetA, hgetL, hgetLk, hsetA, hsetL, hsetLk, List.length_append, List.length_set, List.append_assoc, List.set_set]
    obtain ⟨rfl, rfl⟩ := hR
    refine kont_of_hx cx_ok hb 200 ?_
    simp only [go_sem, Nat.reduceAdd, Nat.reduceSub, Nat.reduceMul, Nat.reduceBEq, Nat.reduceLT, Nat.reduceLeDiff, Nat.reduceEqDiff, Int.reduceToNat, Int.reduceLE, Int.reduceLT, Int.reduceAdd, Int.reduceSub, Int.reduceNeg, Int.reduceBEq, Int.reduceBNe, Nat.reduceBNe, Nat.reduceDiv, Nat.reduceMod, hgetA, hgetL, hgetLk, hsetA, hsetL, hsetLk, List.length_append, List.length_set, List.append_assoc, List.set_set]
    exact ⟨[], (List.append_nil F).symm, rfl⟩
  | some x =>
    rw [hf, Option.map_some] at hk
    refine RFn0_hx cx_ok 200 Try.func59 rfl Try.ntmps59 Try.results59 rfl fun base w pl F hF hFl hb => ?_
    rw [← hF] at ht hm hb0
    have ht_l := hlt ht
    have hm_l := hlt hm
    have hb0_l := hlt hb0
    simp only [go_sem, Nat.reduceAdd, Nat.reduceSub, Nat.reduceMul, Nat.reduceBEq, Nat.reduceLT, Nat.reduceLeDiff, Nat.reduceEqDiff, Int.reduceToNat, Int.reduceLE, Int.reduceLT, Int.reduceAdd, Int.reduceSub, Int.reduceNeg, Int.reduceBEq, Int.reduceBNe, Nat.reduceBNe, Nat.reduceDiv, Nat.reduceMod, hgetA, hgetL, hgetLk, hsetA, hsetL, hsetLk, List.length_append, List.length_set, List.append_assoc, List.set_set, ht, ht_l, hm, hm_l, hb0, hb0_l, hk]
    refine kont_call hb fn55 rfl ?_ (sshares_ok x) (Ret.flat rfl) rfl fun d h hR => ?_
    · simp only [go_sem, Nat.reduceAdd, Nat.reduceSub, Nat.reduceMul, Nat.reduceBEq, Nat.reduceLT, Nat.reduceLeDiff, Nat.reduceEqDiff, Int.reduceToNat, Int.reduceLE, Int.reduceLT, Int.reduceAdd, Int.reduceSub, Int.reduceNeg, Int.reduceBEq, Int.reduceBNe, Nat.reduceBNe, Nat.reduceDiv, Nat.reduceMod, hgetA, hgetL, hgetLk, hsetA, hsetL, hsetLk, List.length_append, List.length_set, List.append_assoc, List.set_set]
    obtain ⟨rfl, rfl⟩ := hR
    refine kont_of_hx cx_ok hb 200 ?_
    simp only [go_sem, Nat.reduceAdd, Nat.reduceSub, Nat.reduceMul, Nat.reduceBEq, Nat.reduceLT, Nat.reduceLeDiff, Nat.reduceEqDiff, Int.reduceToNat, Int.reduceLE, Int.reduceLT, Int.reduceAdd, Int.reduceSub, Int.reduceNeg, Int.reduceBEq, Int.reduceBNe, Nat.reduceBNe, Nat.reduceDiv, Nat.reduceMod, hgetA, hgetL, hgetLk, hsetA, hsetL, hsetLk, List.length_append, List.length_set, List.append_assoc, List.set_set]
    exact ⟨[], by simp⟩
end
section
variable (h : List Ob) (t m c : Nat) {es : List Ent} {L : List Kls} (T : TreeIs es L) (hlen : L.length < 1000000)
  (ht : h[t]? = some ⟨.one, 0, 1, 1, fun _ => [.mref m 0]⟩) (hm : h[m]? = some (mapOb .i64 c es))
include T ht hm hlen
theorem hset_ok (x : Kls) : MFn Try.prog 33 h [.ptr t 0 0 0, dkl x] (fun d h' => d = dint (setE L x) ∧ TreeAt h t m (if setE L x = 0 then putC L x else L) h') := by
  have hk := T.look x.iD
  have ht_l := hlt ht
  have hm_l := hlt hm
  obtain ⟨E, hE0⟩ : ∃ E, E = setE L x := ⟨_, rfl⟩
  rw [← hE0]
  have bad : ∀ g : List Ob, E ≠ 0 → TreeAt h t m (if E = 0 then putC L x else L) (h ++ g) := fun g hne => by rw [if_neg hne]; exact TreeAt.same h t m c ht hm T g
  refine MFn_hx cx_ok 200 Try.func33 rfl Try.ntmps33 Try.results33 rfl fun base w pl hb => ?_
  have ht_l := hlt ht
  have hm_l := hlt hm
  simp only [go_sem, Nat.reduceAdd, Nat.reduceSub, Nat.reduceMul, Nat.reduceBEq, Nat.reduceLT, Nat.reduceLeDiff, Nat.reduceEqDiff, Int.reduceToNat, Int.reduceLE, Int.reduceLT, Int.reduceAdd, Int.reduceSub, Int.reduceNeg, Int.reduceBEq, Int.reduceBNe, Nat.reduceBNe, Nat.reduceDiv, Nat.reduceMod, hgetA, hgetL, hgetLk, hsetA, hsetL, hsetLk, List.length_append, List.length_set, List.append_assoc, List.set_set, ht, ht_l, hm, hm_l]
  refine kont_call hb fn54 rfl ?_ (sright_ok x) (Ret.flat rfl) rfl fun d h hR => ?_
  · simp only [go_sem, Nat.reduceAdd, Nat.reduceSub, Nat.reduceMul, Nat.reduceBEq, Nat.reduceLT, Nat.reduceLeDiff, Nat.reduceEqDiff, Int.reduceToNat, Int.reduceLE, Int.reduceLT, Int.reduceAdd, Int.reduceSub, Int.reduceNeg, Int.reduceBEq, Int.reduceBNe, Nat.reduceBNe, Nat.reduceDiv, Nat.reduceMod, hgetA, hgetL, hgetLk, hsetA, hsetL, hsetLk, List.length_append, List.length_set, List.append_assoc, List.set_set]
  obtain ⟨rfl, rfl⟩ := hR
  refine kont_of_hx cx_ok hb 200 ?_
  simp only [go_sem, Nat.reduceAdd, Nat.reduceSub, Nat.reduceMul, Nat.reduceBEq, Nat.reduceLT, Nat.reduceLeDiff, Nat.reduceEqDiff, Int.reduceToNat, Int.reduceLE, Int.reduceLT, Int.reduceAdd, Int.reduceSub, Int.reduceNeg, Int.reduceBEq, Int.reduceBNe, Nat.reduceBNe, Nat.reduceDiv, Nat.reduceMod, hgetA, hgetL, hgetLk, hsetA, hsetL, hsetLk, List.length_append, List.length_set, List.append_assoc, List.set_set]
  by_cases h0 : rightV x = 0
  case neg =>
    have e : E = rightV x := by rw [hE0, setE, if_pos h0]
    simp only [go_sem, Nat.reduceAdd, Nat.reduceSub, Nat.reduceMul, Nat.reduceBEq, Nat.reduceLT, Nat.reduceLeDiff, Nat.reduceEqDiff, Int.reduceToNat, Int.reduceLE, Int.reduceLT, Int.reduceAdd, Int.reduceSub, Int.reduceNeg, Int.reduceBEq, Int.reduceBNe, Nat.reduceBNe, Nat.reduceDiv, Nat.reduceMod, hgetA, hgetL, hgetLk, hsetA, hsetL, hsetLk, List.length_append, List.length_set, List.append_assoc, List.set_set, beqF h0, bne]
    exact ⟨by rw [e], bad _ (by rw [e]; exact h0)⟩
  simp only [go_sem, Nat.reduceAdd, Nat.reduceSub, Nat.reduceMul, Nat.reduceBEq, Nat.reduceLT, Nat.reduceLeDiff, Nat.reduceEqDiff, Int.reduceToNat, Int.reduceLE, Int.reduceLT, Int.reduceAdd, Int.reduceSub, Int.reduceNeg, Int.reduceBEq, Int.reduceBNe, Nat.reduceBNe, Nat.reduceDiv, Nat.reduceMod, hgetA, hgetL, hgetLk, hsetA, hsetL, hsetLk, List.length_append, List.length_set, List.append_assoc, List.set_set, beqT h0, bne]
  cases hf1 : findC L x.iD with
  | none =>
    have e : E = 6 := by rw [hE0, setE, if_neg (by simpa using h0), if_pos (by simp [hf1])]
    rw [hf1, Option.map_none] at hk
    refine kont_hax cx_ok hb 200 mixed [(0, true), (1, true), (2, true), (3, true), (4, true), (5, true), (6, true), (7, true), (8, true), (9, true), (10, false), (11, false), (12, true)] (by kernel_rfl) (by kernel_rfl) ?_
    simp only [go_sem, Nat.reduceAdd, Nat.reduceSub, Nat.reduceMul, Nat.reduceBEq, Nat.reduceLT, Nat.reduceLeDiff, Nat.reduceEqDiff, Int.reduceToNat, Int.reduceLE, Int.reduceLT, Int.reduceAdd, Int.reduceSub, Int.reduceNeg, Int.reduceBEq, Int.reduceBNe, Nat.reduceBNe, Nat.reduceDiv, Nat.reduceMod, hgetA, hgetL, hgetLk, hsetA, hsetL, hsetLk, List.length_append, List.length_set, List.append_assoc, List.set_set, ht, hm, ht_l, hm_l, hk]
    exact ⟨by rw [e], bad _ (by rw [e]; decide)⟩
  | some y =>
    rw [hf1, Option.map_some] at hk
    have a1 : E = (if x.parent ≠ y.parent ∨ x.leaf ≠ y.leaf then 1 else if (1 < ofI x.ls ∧ sharesC L x.parent = false) ∨ (¬ 1 < ofI x.ls ∧ (childC L x.iD).any (sharing L) = true) then 29 else 0) := by
      rw [hE0, setE, if_neg (by simpa using h0), if_neg (by simp [hf1]), hf1]; rfl
    by_cases hp : x.parent = y.parent
    case neg =>
      have e : E = 1 := by rw [a1, if_pos (.inl hp)]
      refine kont_hax cx_ok hb 200 mixed [(0, true), (1, true), (2, true), (3, true), (4, true), (5, true), (6, true), (7, true), (8, true), (9, true), (10, false), (11, false), (12, true)] (by kernel_rfl) (by kernel_rfl) ?_
      simp only [go_sem, Nat.reduceAdd, Nat.reduceSub, Nat.reduceMul, Nat.reduceBEq, Nat.reduceLT, Nat.reduceLeDiff, Nat.reduceEqDiff, Int.reduceToNat, Int.reduceLE, Int.reduceLT, Int.reduceAdd, Int.reduceSub, Int.reduceNeg, Int.reduceBEq, Int.reduceBNe, Nat.reduceBNe, Nat.reduceDiv, Nat.reduceMod, hgetA, hgetL, hgetLk, hsetA, hsetL, hsetLk, List.length_append, List.length_set, List.append_assoc, List.set_set, ht, hm, ht_l, hm_l, hk, beqF hp, bne]
      exact ⟨by rw [e], bad _ (by rw [e]; decide)⟩
    by_cases hl : x.leaf = y.leaf
    case neg =>
      have e : E = 1 := by rw [a1, if_pos (.inr hl)]
      have hl2 : (x.leaf == y.leaf) = false := by simpa using hl
      refine kont_hax cx_ok hb 200 mixed [(0, true), (1, true), (2, true), (3, true), (4, true), (5, true), (6, true), (7, true), (8, true), (9, true), (10, false), (11, false), (12, true)] (by kernel_rfl) (by kernel_rfl) ?_
      simp only [go_sem, Nat.reduceAdd, Nat.reduceSub, Nat.reduceMul, Nat.reduceBEq, Nat.reduceLT, Nat.reduceLeDiff, Nat.reduceEqDiff, Int.reduceToNat, Int.reduceLE, Int.reduceLT, Int.reduceAdd, Int.reduceSub, Int.reduceNeg, Int.reduceBEq, Int.reduceBNe, Nat.reduceBNe, Nat.reduceDiv, Nat.reduceMod, hgetA, hgetL, hgetLk, hsetA, hsetL, hsetLk, List.length_append, List.length_set, List.append_assoc, List.set_set, ht, hm, ht_l, hm_l, hk, beqT hp, bne, hl2]
      exact ⟨by rw [e], bad _ (by rw [e]; decide)⟩
    have hl2 : (x.leaf == y.leaf) = true := by simpa using hl
    rw [if_neg (by simp [hp, hl])] at a1
    refine kont_hax cx_ok hb 200 mixed [(0, true), (1, true), (2, true), (3, true), (4, true), (5, true), (6, true), (7, true), (8, true), (9, true), (10, false), (11, false), (12, true)] (by kernel_rfl) (by kernel_rfl) ?_
    simp only [go_sem, Nat.reduceAdd, Nat.reduceSub, Nat.reduceMul, Nat.reduceBEq, Nat.reduceLT, Nat.reduceLeDiff, Nat.reduceEqDiff, Int.reduceToNat, Int.reduceLE, Int.reduceLT, Int.reduceAdd, Int.reduceSub, Int.reduceNeg, Int.reduceBEq, Int.reduceBNe, Nat.reduceBNe, Nat.reduceDiv, Nat.reduceMod, hgetA, hgetL, hgetLk, hsetA, hsetL, hsetLk, List.length_append, List.length_set, List.append_assoc, List.set_set, ht, hm, ht_l, hm_l, hk, beqT hp, bne, hl2]
    refine kont_call hb fn55 rfl ?_ (sshares_ok x) (Ret.flat rfl) rfl fun d h hR => ?_
    · simp only [go_sem, Nat.reduceAdd, Nat.reduceSub, Nat.reduceMul, Nat.reduceBEq, Nat.reduceLT, Nat.reduceLeDiff, Nat.reduceEqDiff, Int.reduceToNat, Int.reduceLE, Int.reduceLT, Int.reduceAdd, Int.reduceSub, Int.reduceNeg, Int.reduceBEq, Int.reduceBNe, Nat.reduceBNe, Nat.reduceDiv, Nat.reduceMod, hgetA, hgetL, hgetLk, hsetA, hsetL, hsetLk, List.length_append, List.length_set, List.append_assoc, List.set_set]
    obtain ⟨rfl, rfl⟩ := hR
    refine kont_of_hx cx_ok hb 200 ?_
    simp only [go_sem, Nat.reduceAdd, Nat.reduceSub, Nat.reduceMul, Nat.reduceBEq, Nat.reduceLT, Nat.reduceLeDiff, Nat.reduceEqDiff, Int.reduceToNat, Int.reduceLE, Int.reduceLT, Int.reduceAdd, Int.reduceSub, Int.reduceNeg, Int.reduceBEq, Int.reduceBNe, Nat.reduceBNe, Nat.reduceDiv, Nat.reduceMod, hgetA, hgetL, hgetLk, hsetA, hsetL, hsetLk, List.length_append, List.length_set, List.append_assoc, List.set_set]
    cases hs1 : decide (1 < ofI x.ls)
    · have hs1' : ¬ 1 < ofI x.ls := by simpa using hs1
      simp only [go_sem, Nat.reduceAdd, Nat.reduceSub, Nat.reduceMul, Nat.reduceBEq, Nat.reduceLT, Nat.reduceLeDiff, Nat.reduceEqDiff, Int.reduceToNat, Int.reduceLE, Int.reduceLT, Int.reduceAdd, Int.reduceSub, Int.reduceNeg, Int.reduceBEq, Int.reduceBNe, Nat.reduceBNe, Nat.reduceDiv, Nat.reduceMod, hgetA, hgetL, hgetLk, hsetA, hsetL, hsetLk, List.length_append, List.length_set, List.append_assoc, List.set_set, Go.undef]
      refine kont_call hb fn55 rfl ?_ (sshares_ok x) (Ret.flat rfl) rfl fun d h hR => ?_
      · simp only [go_sem, Nat.reduceAdd, Nat.reduceSub, Nat.reduceMul, Nat.reduceBEq, Nat.reduceLT, Nat.reduceLeDiff, Nat.reduceEqDiff, Int.reduceToNat, Int.reduceLE, Int.reduceLT, Int.reduceAdd, Int.reduceSub, Int.reduceNeg, Int.reduceBEq, Int.reduceBNe, Nat.reduceBNe, Nat.reduceDiv, Nat.reduceMod, hgetA, hgetL, hgetLk, hsetA, hsetL, hsetLk, List.length_append, List.length_set, List.append_assoc, List.set_set, hs1, Go.undef]
      obtain ⟨rfl, rfl⟩ := hR
      refine kont_of_hx cx_ok hb 200 ?_
      simp only [go_sem, Nat.reduceAdd, Nat.reduceSub, Nat.reduceMul, Nat.reduceBEq, Nat.reduceLT, Nat.reduceLeDiff, Nat.reduceEqDiff, Int.reduceToNat, Int.reduceLE, Int.reduceLT, Int.reduceAdd, Int.reduceSub, Int.reduceNeg, Int.reduceBEq, Int.reduceBNe, Nat.reduceBNe, Nat.reduceDiv, Nat.reduceMod, hgetA, hgetL, hgetLk, hsetA, hsetL, hsetLk, List.length_append, List.length_set, List.append_assoc, List.set_set, hs1, Go.undef]
      refine kont_callR hb fn58 rfl ?_ (hchildren_ok _ t m c T hlen (ro_app ht) (ro_app hm) x.iD) rfl fun d g hs => ?_
      · simp only [go_sem, Nat.reduceAdd, Nat.reduceSub, Nat.reduceMul, Nat.reduceBEq, Nat.reduceLT, Nat.reduceLeDiff, Nat.reduceEqDiff, Int.reduceToNat, Int.reduceLE, Int.reduceLT, Int.reduceAdd, Int.reduceSub, Int.reduceNeg, Int.reduceBEq, Int.reduceBNe, Nat.reduceBNe, Nat.reduceDiv, Nat.reduceMod]
      rcases hs with ⟨rfl, hc0⟩ | ⟨lo, gn, off, row, rfl, hlo, ho, hr⟩
      · have e : E = 0 := by rw [a1, if_neg (by rintro (⟨h1, _⟩ | ⟨_, h1⟩); exact hs1' h1; rw [hc0] at h1; simp at h1)]
        refine kont_of_hx cx_ok hb 200 ?_
        simp only [go_sem, Nat.reduceAdd, Nat.reduceSub, Nat.reduceMul, Nat.reduceBEq, Nat.reduceLT, Nat.reduceLeDiff, Nat.reduceEqDiff, Int.reduceToNat, Int.reduceLE, Int.reduceLT, Int.reduceAdd, Int.reduceSub, Int.reduceNeg, Int.reduceBEq, Int.reduceBNe, Nat.reduceBNe, Nat.reduceDiv, Nat.reduceMod, hgetA, hgetL, hgetLk, hsetA, hsetL, hsetLk, List.length_append, List.length_set, List.append_assoc, List.set_set, ht, hm, ht_l, hm_l]
        refine kont_callR0 hb fn60 rfl ?_ (containsFuncN_ok _ (.clo 59 0 [.ptr h.length 0 0 0])) rfl fun d hR => ?_
        · simp only [go_sem, Nat.reduceAdd, Nat.reduceSub, Nat.reduceMul, Nat.reduceBEq, Nat.reduceLT, Nat.reduceLeDiff, Nat.reduceEqDiff, Int.reduceToNat, Int.reduceLE, Int.reduceLT, Int.reduceAdd, Int.reduceSub, Int.reduceNeg, Int.reduceBEq, Int.reduceBNe, Nat.reduceBNe, Nat.reduceDiv, Nat.reduceMod, hgetA, hgetL, hgetLk, hsetA, hsetL, hsetLk, List.length_append, List.length_set, List.append_assoc, List.set_set, Go.undef]
        subst hR
        refine kont_of_hx cx_ok hb 200 ?_
        simp only [go_sem, Nat.reduceAdd, Nat.reduceSub, Nat.reduceMul, Nat.reduceBEq, Nat.reduceLT, Nat.reduceLeDiff, Nat.reduceEqDiff, Int.reduceToNat, Int.reduceLE, Int.reduceLT, Int.reduceAdd, Int.reduceSub, Int.reduceNeg, Int.reduceBEq, Int.reduceBNe, Nat.reduceBNe, Nat.reduceDiv, Nat.reduceMod, hgetA, hgetL, hgetLk, hsetA, hsetL, hsetLk, List.length_append, List.length_set, List.append_assoc, List.set_set, Go.undef]
        refine kont_hax cx_ok hb 200 mixed [(0, true), (1, true), (2, true), (3, true), (4, true), (5, true), (6, true), (7, false)] (by kernel_rfl) (by kernel_rfl) ?_
        simp only [go_sem, Nat.reduceAdd, Nat.reduceSub, Nat.reduceMul, Nat.reduceBEq, Nat.reduceLT, Nat.reduceLeDiff, Nat.reduceEqDiff, Int.reduceToNat, Int.reduceLE, Int.reduceLT, Int.reduceAdd, Int.reduceSub, Int.reduceNeg, Int.reduceBEq, Int.reduceBNe, Nat.reduceBNe, Nat.reduceDiv, Nat.reduceMod, hgetA, hgetL, hgetLk, hsetA, hsetL, hsetLk, List.length_append, List.length_set, List.append_assoc, List.set_set, ht, hm, ht_l, hm_l]
        rw [if_pos e]
        exact ⟨by rw [e], TreeAt.upd h t m c T ht hm x _⟩
      · refine kont_of_hx cx_ok hb 200 ?_
        have hcl : (childC L x.iD).length < 1000000 := by
          have := List.length_filter_le (fun y : Kls => y.parent == x.iD) L
          unfold childC; rw [List.length_map]; omega
        rw [List.append_assoc] at ho
        simp only [go_sem, Nat.reduceAdd, Nat.reduceSub, Nat.reduceMul, Nat.reduceBEq, Nat.reduceLT, Nat.reduceLeDiff, Nat.reduceEqDiff, Int.reduceToNat, Int.reduceLE, Int.reduceLT, Int.reduceAdd, Int.reduceSub, Int.reduceNeg, Int.reduceBEq, Int.reduceBNe, Nat.reduceBNe, Nat.reduceDiv, Nat.reduceMod, hgetA, hgetL, hgetLk, hsetA, hsetL, hsetLk, List.length_append, List.length_set, List.append_assoc, List.set_set, ht, hm, ht_l, hm_l]
        refine kont_callR0 hb fn60 rfl ?_ (containsFunc_ok _ (childC L x.iD) lo gn off row hcl (ro_get ho) hr (.clo 59 0 [.ptr h.length 0 0 0]) 59 0 [.ptr h.length 0 0 0] fn59 rfl (sharing L) (fun h' n hx => hset1_ok h' t m c h.length T (ro_get (hx.get (ro_app ht))) (roro_get (hx.get (ro_app hm))) (ro_get (hx.get (ro_get (o := ⟨.one, 0, 1, 1, fun _ => [.ptr t 0 0 0]⟩) (by rw [hgetL rfl]; rfl)))) n)) rfl fun d hR => ?_
        · simp only [go_sem, Nat.reduceAdd, Nat.reduceSub, Nat.reduceMul, Nat.reduceBEq, Nat.reduceLT, Nat.reduceLeDiff, Nat.reduceEqDiff, Int.reduceToNat, Int.reduceLE, Int.reduceLT, Int.reduceAdd, Int.reduceSub, Int.reduceNeg, Int.reduceBEq, Int.reduceBNe, Nat.reduceBNe, Nat.reduceDiv, Nat.reduceMod, hgetA, hgetL, hgetLk, hsetA, hsetL, hsetLk, List.length_append, List.length_set, List.append_assoc, List.set_set, Go.undef, firstI_any]
        subst hR
        refine kont_of_hx cx_ok hb 200 ?_
        simp only [go_sem, Nat.reduceAdd, Nat.reduceSub, Nat.reduceMul, Nat.reduceBEq, Nat.reduceLT, Nat.reduceLeDiff, Nat.reduceEqDiff, Int.reduceToNat, Int.reduceLE, Int.reduceLT, Int.reduceAdd, Int.reduceSub, Int.reduceNeg, Int.reduceBEq, Int.reduceBNe, Nat.reduceBNe, Nat.reduceDiv, Nat.reduceMod, hgetA, hgetL, hgetLk, hsetA, hsetL, hsetLk, List.length_append, List.length_set, List.append_assoc, List.set_set, Go.undef, firstI_any]
        cases hany : (childC L x.iD).any (sharing L)
        · have e : E = 0 := by rw [a1, if_neg (by rw [hany]; simp [hs1'])]
          simp only [go_sem, Nat.reduceAdd, Nat.reduceSub, Nat.reduceMul, Nat.reduceBEq, Nat.reduceLT, Nat.reduceLeDiff, Nat.reduceEqDiff, Int.reduceToNat, Int.reduceLE, Int.reduceLT, Int.reduceAdd, Int.reduceSub, Int.reduceNeg, Int.reduceBEq, Int.reduceBNe, Nat.reduceBNe, Nat.reduceDiv, Nat.reduceMod, hgetA, hgetL, hgetLk, hsetA, hsetL, hsetLk, List.length_append, List.length_set, List.append_assoc, List.set_set, Go.undef]
          refine kont_hax cx_ok hb 200 mixed [(0, true), (1, true), (2, true), (3, true), (4, true), (5, true), (6, true), (7, false)] (by kernel_rfl) (by kernel_rfl) ?_
          simp only [go_sem, Nat.reduceAdd, Nat.reduceSub, Nat.reduceMul, Nat.reduceBEq, Nat.reduceLT, Nat.reduceLeDiff, Nat.reduceEqDiff, Int.reduceToNat, Int.reduceLE, Int.reduceLT, Int.reduceAdd, Int.reduceSub, Int.reduceNeg, Int.reduceBEq, Int.reduceBNe, Nat.reduceBNe, Nat.reduceDiv, Nat.reduceMod, hgetA, hgetL, hgetLk, hsetA, hsetL, hsetLk, List.length_append, List.length_set, List.append_assoc, List.set_set, ht, hm, ht_l, hm_l]
          rw [if_pos e]
          exact ⟨by rw [e], TreeAt.upd h t m c T ht hm x _⟩
        · have e : E = 29 := by rw [a1, if_pos (.inr ⟨hs1', hany⟩)]
          simp only [go_sem, Nat.reduceAdd, Nat.reduceSub, Nat.reduceMul, Nat.reduceBEq, Nat.reduceLT, Nat.reduceLeDiff, Nat.reduceEqDiff, Int.reduceToNat, Int.reduceLE, Int.reduceLT, Int.reduceAdd, Int.reduceSub, Int.reduceNeg, Int.reduceBEq, Int.reduceBNe, Nat.reduceBNe, Nat.reduceDiv, Nat.reduceMod, hgetA, hgetL, hgetLk, hsetA, hsetL, hsetLk, List.length_append, List.length_set, List.append_assoc, List.set_set, Go.undef]
          exact ⟨by rw [e], bad _ (by rw [e]; decide)⟩
    · have hs1' : 1 < ofI x.ls := by simpa using hs1
      simp only [go_sem, Nat.reduceAdd, Nat.reduceSub, Nat.reduceMul, Nat.reduceBEq, Nat.reduceLT, Nat.reduceLeDiff, Nat.reduceEqDiff, Int.reduceToNat, Int.reduceLE, Int.reduceLT, Int.reduceAdd, Int.reduceSub, Int.reduceNeg, Int.reduceBEq, Int.reduceBNe, Nat.reduceBNe, Nat.reduceDiv, Nat.reduceMod, hgetA, hgetL, hgetLk, hsetA, hsetL, hsetLk, List.length_append, List.length_set, List.append_assoc, List.set_set, Go.undef]
      refine kont_callR0 hb fn56 rfl ?_ (hshares_ok _ t m c T (ro_app ht) (ro_app hm) x.parent) rfl fun d hR => ?_
      · simp only [go_sem, Nat.reduceAdd, Nat.reduceSub, Nat.reduceMul, Nat.reduceBEq, Nat.reduceLT, Nat.reduceLeDiff, Nat.reduceEqDiff, Int.reduceToNat, Int.reduceLE, Int.reduceLT, Int.reduceAdd, Int.reduceSub, Int.reduceNeg, Int.reduceBEq, Int.reduceBNe, Nat.reduceBNe, Nat.reduceDiv, Nat.reduceMod, hgetA, hgetL, hgetLk, hsetA, hsetL, hsetLk, List.length_append, List.length_set, List.append_assoc, List.set_set]
      subst hR
      refine kont_of_hx cx_ok hb 200 ?_
      simp only [go_sem, Nat.reduceAdd, Nat.reduceSub, Nat.reduceMul, Nat.reduceBEq, Nat.reduceLT, Nat.reduceLeDiff, Nat.reduceEqDiff, Int.reduceToNat, Int.reduceLE, Int.reduceLT, Int.reduceAdd, Int.reduceSub, Int.reduceNeg, Int.reduceBEq, Int.reduceBNe, Nat.reduceBNe, Nat.reduceDiv, Nat.reduceMod, hgetA, hgetL, hgetLk, hsetA, hsetL, hsetLk, List.length_append, List.length_set, List.append_assoc, List.set_set]
      cases hs2 : sharesC L x.parent
      · have e : E = 29 := by rw [a1, if_pos (.inl ⟨hs1', hs2⟩)]
        simp only [go_sem, Nat.reduceAdd, Nat.reduceSub, Nat.reduceMul, Nat.reduceBEq, Nat.reduceLT, Nat.reduceLeDiff, Nat.reduceEqDiff, Int.reduceToNat, Int.reduceLE, Int.reduceLT, Int.reduceAdd, Int.reduceSub, Int.reduceNeg, Int.reduceBEq, Int.reduceBNe, Nat.reduceBNe, Nat.reduceDiv, Nat.reduceMod, hgetA, hgetL, hgetLk, hsetA, hsetL, hsetLk, List.length_append, List.length_set, List.append_assoc, List.set_set, Go.undef]
        exact ⟨by rw [e], bad _ (by rw [e]; decide)⟩
      · have e : E = 0 := by rw [a1, if_neg (by rw [hs2]; simp [hs1'])]
        simp only [go_sem, Nat.reduceAdd, Nat.reduceSub, Nat.reduceMul, Nat.reduceBEq, Nat.reduceLT, Nat.reduceLeDiff, Nat.reduceEqDiff, Int.reduceToNat, Int.reduceLE, Int.reduceLT, Int.reduceAdd, Int.reduceSub, Int.reduceNeg, Int.reduceBEq, Int.reduceBNe, Nat.reduceBNe, Nat.reduceDiv, Nat.reduceMod, hgetA, hgetL, hgetLk, hsetA, hsetL, hsetLk, List.length_append, List.length_set, List.append_assoc, List.set_set, Go.undef]
        refine kont_call hb fn55 rfl ?_ (sshares_ok x) (Ret.flat rfl) rfl fun d h hR => ?_
        · simp only [go_sem, Nat.reduceAdd, Nat.reduceSub, Nat.reduceMul, Nat.reduceBEq, Nat.reduceLT, Nat.reduceLeDiff, Nat.reduceEqDiff, Int.reduceToNat, Int.reduceLE, Int.reduceLT, Int.reduceAdd, Int.reduceSub, Int.reduceNeg, Int.reduceBEq, Int.reduceBNe, Nat.reduceBNe, Nat.reduceDiv, Nat.reduceMod, hgetA, hgetL, hgetLk, hsetA, hsetL, hsetLk, List.length_append, List.length_set, List.append_assoc, List.set_set, hs1, Go.undef]
        obtain ⟨rfl, rfl⟩ := hR
        refine kont_of_hx cx_ok hb 200 ?_
        simp only [go_sem, Nat.reduceAdd, Nat.reduceSub, Nat.reduceMul, Nat.reduceBEq, Nat.reduceLT, Nat.reduceLeDiff, Nat.reduceEqDiff, Int.reduceToNat, Int.reduceLE, Int.reduceLT, Int.reduceAdd, Int.reduceSub, Int.reduceNeg, Int.reduceBEq, Int.reduceBNe, Nat.reduceBNe, Nat.reduceDiv, Nat.reduceMod, hgetA, hgetL, hgetLk, hsetA, hsetL, hsetLk, List.length_append, List.length_set, List.append_assoc, List.set_set, hs1, Go.undef]
        refine kont_hax cx_ok hb 200 mixed [(0, true), (1, true), (2, true), (3, true), (4, true), (5, true), (6, true), (7, false)] (by kernel_rfl) (by kernel_rfl) ?_
        simp only [go_sem, Nat.reduceAdd, Nat.reduceSub, Nat.reduceMul, Nat.reduceBEq, Nat.reduceLT, Nat.reduceLeDiff, Nat.reduceEqDiff, Int.reduceToNat, Int.reduceLE, Int.reduceLT, Int.reduceAdd, Int.reduceSub, Int.reduceNeg, Int.reduceBEq, Int.reduceBNe, Nat.reduceBNe, Nat.reduceDiv, Nat.reduceMod, hgetA, hgetL, hgetLk, hsetA, hsetL, hsetLk, List.length_append, List.length_set, List.append_assoc, List.set_set, ht, hm, ht_l, hm_l]
        rw [if_pos e]
        exact ⟨by rw [e], TreeAt.upd h t m c T ht hm x _⟩
end
end Go.Fg.X
namespace Go.Fg.X
open Go.Proofs Go.Fg
set_option maxRecDepth 100000
set_option maxHeartbeats 4000000
set_option linter.unusedSimpArgs false
set_option linter.unusedVariables false
theorem findC_put {L : List Kls} (h : Rising L) (x : Kls) (k : Int) : findC (putC L x) k = if k = x.iD then some x else findC L k := by
  have hr := putC_rising x h
  have hm := fun c => (putC_perm x h).mem_iff (a := c)
  by_cases hk : k = x.iD
  · rw [if_pos hk]
    exact (findC_iff hr).2 ⟨(hm x).2 (by simp), hk.symm⟩
  · rw [if_neg hk]
    cases hf : findC L k with
    | some c =>
      obtain ⟨h1, h2⟩ := (findC_iff h).1 hf
      exact (findC_iff hr).2 ⟨(hm c).2 (List.mem_cons.2 (.inr (List.mem_filter.2 ⟨h1, by simp; omega⟩))), h2⟩
    | none =>
      rw [findC_none] at hf ⊢
      intro c hc
      rcases List.mem_cons.1 ((hm c).1 hc) with rfl | hc
      · exact fun e => hk e.symm
      · exact hf c (List.mem_filter.1 hc).1
theorem findC_del {L : List Kls} (h : Rising L) (k0 k : Int) : findC (delC L k0) k = if k = k0 then none else findC L k := by
  have hr := delC_rising k0 h
  by_cases hk : k = k0
  · rw [if_pos hk, findC_none]
    intro c hc
    have := (List.mem_filter.1 hc).2
    simp at this; omega
  · rw [if_neg hk]
    cases hf : findC L k with
    | some c =>
      obtain ⟨h1, h2⟩ := (findC_iff h).1 hf
      exact (findC_iff hr).2 ⟨List.mem_filter.2 ⟨h1, by simp; omega⟩, h2⟩
    | none =>
      rw [findC_none] at hf ⊢
      exact fun c hc => hf c (List.mem_filter.1 hc).1
theorem Ends.succ {L : List Kls} : ∀ {n : Nat} {id : Int}, Ends L n id → Ends L (n + 1) id
  | 0, id, h => by simp only [Ends] at h ⊢; rw [h]; trivial
  | n + 1, id, h => by
    rw [Ends] at h ⊢
    cases hf : findC L id with
    | none => trivial
    | some c => rw [hf] at h; exact Ends.succ h
theorem Ends.le {L : List Kls} {n k : Nat} {id : Int} (h : Ends L n id) (hk : n ≤ k) : Ends L k id := by
  induction hk with
  | refl => exact h
  | step _ ih => exact ih.succ
theorem upF_succ {L : List Kls} : ∀ {n : Nat} {id : Int}, Ends L n id → upF L (n + 1) id = upF L n id
  | 0, id, h => by simp only [Ends] at h; simp only [upF, h]
  | n + 1, id, h => by
    rw [Ends] at h
    rw [upF]
    conv => rhs; rw [upF]
    cases hf : findC L id with
    | none => rfl
    | some c => rw [hf] at h; simp only [upF_succ h]
theorem upF_le {L : List Kls} {n k : Nat} {id : Int} (h : Ends L n id) (hk : n ≤ k) : upF L k id = upF L n id := by
  induction hk with
  | refl => rfl
  | step hk ih => rw [upF_succ (h.le hk), ih]
theorem upF_len {L : List Kls} : ∀ {n : Nat} {id : Int}, (upF L n id).length ≤ n
  | 0, _ => Nat.le_refl _
  | n + 1, id => by
    rw [upF]
    cases findC L id with
    | none => exact Nat.zero_le _
    | some c => have := upF_len (L := L) (n := n) (id := c.parent); simp only [List.length_cons]; omega
theorem Ends.short {L : List Kls} : ∀ {n k : Nat} {id : Int}, Ends L n id → (upF L n id).length ≤ k → Ends L k id
  | 0, k, id, h, _ => h.le (Nat.zero_le _)
  | n + 1, k, id, h, hk => by
    rw [Ends] at h
    rw [upF] at hk
    cases hf : findC L id with
    | none => cases k with
      | zero => exact hf
      | succ k => rw [Ends, hf]; trivial
    | some c =>
      rw [hf] at h hk
      simp only [List.length_cons] at hk
      cases k with
      | zero => omega
      | succ k => rw [Ends, hf]; exact Ends.short h (by omega)
/-- What always holds of a tree. -/
structure TreeInv (L : List Kls) : Prop where
  rising : Rising L
  ids : ∀ c ∈ L, 1 ≤ c.iD
  par : ∀ c ∈ L, c.parent = 0 ∨ (findC L c.parent).isSome = true
  ends : ∀ id, Ends L 16 id
theorem TreeInv.nil : TreeInv [] := ⟨by simp [Rising], by simp, by simp, fun id => by simp [Ends, findC]⟩
end Go.Fg.X
namespace Go.Fg.X
open Go.Proofs Go.Fg
set_option maxRecDepth 100000
set_option maxHeartbeats 4000000
set_option linter.unusedSimpArgs false
set_option linter.unusedVariables false
theorem right_id {x : Kls} (h : rightV x = 0) : 1 ≤ x.iD ∧ x.iD ≤ 65536 ∧ x.parent ≠ x.iD := by
  have h2 : idOk x = true := by
    cases h3 : idOk x with
    | true => rfl
    | false => rw [rightV, h3] at h; simp at h
  simp [idOk, frI] at h2
  exact ⟨h2.1.1.1, h2.1.1.2, h2.2⟩
theorem some_put {L : List Kls} (h : Rising L) (x : Kls) {k : Int} (hk : (findC L k).isSome = true) : (findC (putC L x) k).isSome = true := by
  rw [findC_put h]; split
  · rfl
  · exact hk
theorem mem_put {L : List Kls} (h : Rising L) (x : Kls) {c : Kls} (hc : c ∈ putC L x) : c = x ∨ c ∈ L := by
  rcases List.mem_cons.1 ((putC_perm x h).mem_iff.1 hc) with h1 | h1
  · exact .inl h1
  · exact .inr (List.mem_filter.1 h1).1
theorem TreeInv.add {L : List Kls} (I : TreeInv L) {x : Kls} (h0 : rightV x = 0) (h1 : findC L x.iD = none) (h2 : x.parent = 0 ∨ (findC L x.parent).isSome = true) (h3 : (upF L 16 x.parent).length ≠ 16) : TreeInv (putC L x) := by
  obtain ⟨i1, _, i3⟩ := right_id h0
  have key : ∀ n id, id ≠ x.iD → Ends L n id → Ends (putC L x) n id := by
    intro n
    induction n with
    | zero => intro id hid h; rw [Ends] at h ⊢; rw [findC_put I.rising, if_neg hid]; exact h
    | succ n ih =>
      intro id hid h
      rw [Ends] at h ⊢
      rw [findC_put I.rising, if_neg hid]
      cases hf : findC L id with
      | none => trivial
      | some c =>
        rw [hf] at h
        refine ih _ ?_ h
        rcases I.par c ((findC_iff I.rising).1 hf).1 with hp | hp
        · rw [hp]; omega
        · intro e; rw [e, h1] at hp; cases hp
  refine ⟨putC_rising x I.rising, fun c hc => ?_, fun c hc => ?_, fun id => ?_⟩
  · rcases mem_put I.rising x hc with rfl | hc
    · exact i1
    · exact I.ids c hc
  · rcases mem_put I.rising x hc with rfl | hc
    · exact h2.imp id fun h => some_put I.rising c h
    · exact (I.par c hc).imp id fun h => some_put I.rising x h
  · by_cases hid : id = x.iD
    · subst hid
      rw [Ends, findC_put I.rising, if_pos rfl]
      refine key 15 _ i3 ((I.ends x.parent).short ?_)
      have := upF_len (L := L) (n := 16) (id := x.parent)
      omega
    · exact key 16 id hid (I.ends id)
theorem TreeInv.del {L : List Kls} (I : TreeInv L) {k0 : Int} (h : childC L k0 = []) : TreeInv (delC L k0) := by
  have hno : ∀ c ∈ L, c.parent ≠ k0 := fun c hc e => by
    have : c ∈ L.filter (fun y => y.parent == k0) := List.mem_filter.2 ⟨hc, by simp [e]⟩
    have h2 : (L.filter fun y => y.parent == k0) = [] := by simpa [childC] using h
    rw [h2] at this; simp at this
  refine ⟨delC_rising k0 I.rising, fun c hc => I.ids c (List.mem_filter.1 hc).1, fun c hc => ?_, fun id => ?_⟩
  · have hc2 := (List.mem_filter.1 hc).1
    exact (I.par c hc2).imp id fun hp => by rw [findC_del I.rising, if_neg (hno c hc2)]; exact hp
  · have key : ∀ n id, Ends L n id → Ends (delC L k0) n id := by
      intro n
      induction n with
      | zero => intro id h; rw [Ends] at h ⊢; rw [findC_del I.rising]; split <;> simp [h]
      | succ n ih =>
        intro id h
        rw [Ends] at h ⊢
        rw [findC_del I.rising]
        by_cases hid : id = k0
        · rw [if_pos hid]; trivial
        · rw [if_neg hid]
          cases hf : findC L id with
          | none => trivial
          | some c => rw [hf] at h; exact ih _ h
    exact key 16 id (I.ends id)
theorem TreeInv.set {L : List Kls} (I : TreeInv L) {x y : Kls} (h0 : rightV x = 0) (h1 : findC L x.iD = some y) (h2 : x.parent = y.parent) : TreeInv (putC L x) := by
  obtain ⟨i1, _, i3⟩ := right_id h0
  have key : ∀ n id, Ends L n id → Ends (putC L x) n id := by
    intro n
    induction n with
    | zero =>
      intro id h
      rw [Ends] at h ⊢
      rw [findC_put I.rising]
      by_cases hid : id = x.iD
      · subst hid; rw [h1] at h; cases h
      · rw [if_neg hid]; exact h
    | succ n ih =>
      intro id h
      rw [Ends] at h ⊢
      rw [findC_put I.rising]
      by_cases hid : id = x.iD
      · subst hid; rw [if_pos rfl]; rw [h1] at h; show Ends (putC L x) n x.parent; rw [h2]; exact ih _ h
      · rw [if_neg hid]
        cases hf : findC L id with
        | none => trivial
        | some c => rw [hf] at h; exact ih _ h
  refine ⟨putC_rising x I.rising, fun c hc => ?_, fun c hc => ?_, fun id => key 16 id (I.ends id)⟩
  · rcases mem_put I.rising x hc with rfl | hc
    · exact i1
    · exact I.ids c hc
  · rcases mem_put I.rising x hc with rfl | hc
    · rw [h2]
      exact (I.par y ((findC_iff I.rising).1 h1).1).imp id fun h => some_put I.rising c h
    · exact (I.par c hc).imp id fun h => some_put I.rising x h
end Go.Fg.X
namespace Go.Fg.X
open Go.Proofs Go.Fg
set_option maxRecDepth 100000
set_option maxHeartbeats 4000000
set_option linter.unusedSimpArgs false
set_option linter.unusedVariables false
@[go_sem] def kls (l : List Kls) : D := .imm 14 l.length (Kls.rows l)
theorem hnew_ok (h : List Ob) : MFn Try.prog 30 h [] (fun d h' => d = .ptr (h.length + 1) 0 0 0 ∧ h' = h ++ [mapOb .i64 0 [], ⟨.one, 0, 1, 1, fun _ => [.mref h.length 0]⟩]) := by
  refine MFn_hx cx_ok 200 Try.func30 rfl Try.ntmps30 Try.results30 rfl fun base w pl hb => ?_
  simp only [go_sem, Nat.reduceAdd, Nat.reduceSub, Nat.reduceMul, Nat.reduceBEq, Nat.reduceLT, Nat.reduceLeDiff, Nat.reduceEqDiff, Int.reduceToNat, Int.reduceLE, Int.reduceLT, Int.reduceAdd, Int.reduceSub, Int.reduceNeg, Int.reduceBEq, Int.reduceBNe, Nat.reduceBNe, Nat.reduceDiv, Nat.reduceMod, hgetA, hgetL, hgetLk, hsetA, hsetL, hsetLk, List.length_append, List.length_set, List.append_assoc, List.set_set]
def findI (L : List Kls) (k : Int) : Int := match L.findIdx? (fun c => c.iD == k) with
  | some i => i
  | none => -1
theorem findI_at {L : List Kls} {k : Int} {i : Nat} (hi : i < L.length) (h : ∀ j, j < i → (L.getD j default).iD ≠ k) (hg : (L.getD i default).iD = k) : findI L k = i := by
  have e : L.findIdx? (fun c => c.iD == k) = some i := by
    rw [List.findIdx?_eq_some_iff_getElem]
    refine ⟨hi, by simpa [List.getD_eq_getElem?_getD, hi] using hg, fun j hj => ?_⟩
    have := h j hj
    simpa [List.getD_eq_getElem?_getD, show j < L.length by omega] using this
  rw [findI, e]
theorem findI_none {L : List Kls} {k : Int} (h : ∀ j, j < L.length → (L.getD j default).iD ≠ k) : findI L k = -1 := by
  have e : L.findIdx? (fun c => c.iD == k) = none := by
    rw [List.findIdx?_eq_none_iff]
    intro x hx
    obtain ⟨i, hi, rfl⟩ := List.getElem_of_mem hx
    have := h i hi
    simpa [List.getD_eq_getElem?_getD, hi] using this
  rw [findI, e]
theorem rfind_ok (L : List Kls) (k : Int) (hl : L.length < 1000000) : AFn Try.prog 100 [kls L, dint k] (Ret (dint (findI L k))) := by
  refine AFn_hxk 0 cx_ok 200 Try.func100 rfl Try.ntmps100 Try.results100 rfl fun base w hb => ?_
  simp only [go_sem, Nat.reduceAdd, Nat.reduceSub, Nat.reduceMul, Nat.reduceBEq, Nat.reduceLT, Nat.reduceLeDiff, Nat.reduceEqDiff, Int.reduceToNat, Int.reduceLE, Int.reduceLT, Int.reduceAdd, Int.reduceSub, Int.reduceNeg, Int.reduceBEq, Int.reduceBNe, Nat.reduceBNe, Nat.reduceDiv, Nat.reduceMod]
  refine kont_for (fun i s => (∀ j, j < i → (L.getD j default).iD ≠ k) ∧ s = ⟨[(1, dint k), (7, kls L), (8, dint L.length), (9, dint i)], []⟩) L.length (Weak.frame (by simp only [go_sem, Nat.reduceAdd, Nat.reduceSub, Nat.reduceMul, Nat.reduceBEq, Nat.reduceLT, Nat.reduceLeDiff, Nat.reduceEqDiff, Int.reduceToNat, Int.reduceLE, Int.reduceLT, Int.reduceAdd, Int.reduceSub, Int.reduceNeg, Int.reduceBEq, Int.reduceBNe, Nat.reduceBNe, Nat.reduceDiv, Nat.reduceMod])) ⟨fun j hj => absurd hj (by omega), rfl⟩ ?_
  rintro i s hi ⟨hn, rfl⟩
  have hwr := wrap_succ (show i < 4611686018427387904 by omega)
  refine kont_of_hx cx_ok hb 200 ?_
  simp only [go_sem, Nat.reduceAdd, Nat.reduceSub, Nat.reduceMul, Nat.reduceBEq, Nat.reduceLT, Nat.reduceLeDiff, Nat.reduceEqDiff, Int.reduceToNat, Int.reduceLE, Int.reduceLT, Int.reduceAdd, Int.reduceSub, Int.reduceNeg, Int.reduceBEq, Int.reduceBNe, Nat.reduceBNe, Nat.reduceDiv, Nat.reduceMod]
  first | refine hite_lt hi (fun hk1 => ?_) (fun hk1 => ?_) | refine hite_ltI hi (fun hk1 => ?_) (fun hk1 => ?_)
  · simp only [go_sem, Nat.reduceAdd, Nat.reduceSub, Nat.reduceMul, Nat.reduceBEq, Nat.reduceLT, Nat.reduceLeDiff, Nat.reduceEqDiff, Int.reduceToNat, Int.reduceLE, Int.reduceLT, Int.reduceAdd, Int.reduceSub, Int.reduceNeg, Int.reduceBEq, Int.reduceBNe, Nat.reduceBNe, Nat.reduceDiv, Nat.reduceMod, hk1]
    by_cases hc : (L.getD i default).iD = k
    · rw [findI_at hk1 hn hc]
      simp only [go_sem, Nat.reduceAdd, Nat.reduceSub, Nat.reduceMul, Nat.reduceBEq, Nat.reduceLT, Nat.reduceLeDiff, Nat.reduceEqDiff, Int.reduceToNat, Int.reduceLE, Int.reduceLT, Int.reduceAdd, Int.reduceSub, Int.reduceNeg, Int.reduceBEq, Int.reduceBNe, Nat.reduceBNe, Nat.reduceDiv, Nat.reduceMod, beqT hc]
    · simp only [go_sem, Nat.reduceAdd, Nat.reduceSub, Nat.reduceMul, Nat.reduceBEq, Nat.reduceLT, Nat.reduceLeDiff, Nat.reduceEqDiff, Int.reduceToNat, Int.reduceLE, Int.reduceLT, Int.reduceAdd, Int.reduceSub, Int.reduceNeg, Int.reduceBEq, Int.reduceBNe, Nat.reduceBNe, Nat.reduceDiv, Nat.reduceMod, beqF hc]
      refine ⟨hk1, _, Weak.to 0 ⟨?_, by simp only [go_sem, Nat.reduceAdd, Nat.reduceSub, Nat.reduceMul, Nat.reduceBEq, Nat.reduceLT, Nat.reduceLeDiff, Nat.reduceEqDiff, Int.reduceToNat, Int.reduceLE, Int.reduceLT, Int.reduceAdd, Int.reduceSub, Int.reduceNeg, Int.reduceBEq, Int.reduceBNe, Nat.reduceBNe, Nat.reduceDiv, Nat.reduceMod], ?_, ?_⟩, fun j hj => ?_, rfl⟩
      · simp only [go_sem, Nat.reduceAdd, Nat.reduceSub, Nat.reduceMul, Nat.reduceBEq, Nat.reduceLT, Nat.reduceLeDiff, Nat.reduceEqDiff, Int.reduceToNat, Int.reduceLE, Int.reduceLT, Int.reduceAdd, Int.reduceSub, Int.reduceNeg, Int.reduceBEq, Int.reduceBNe, Nat.reduceBNe, Nat.reduceDiv, Nat.reduceMod, hwr]
      · simp only [go_sem, Nat.reduceAdd, Nat.reduceSub, Nat.reduceMul, Nat.reduceBEq, Nat.reduceLT, Nat.reduceLeDiff, Nat.reduceEqDiff, Int.reduceToNat, Int.reduceLE, Int.reduceLT, Int.reduceAdd, Int.reduceSub, Int.reduceNeg, Int.reduceBEq, Int.reduceBNe, Nat.reduceBNe, Nat.reduceDiv, Nat.reduceMod]
      · simp only [go_sem, Nat.reduceAdd, Nat.reduceSub, Nat.reduceMul, Nat.reduceBEq, Nat.reduceLT, Nat.reduceLeDiff, Nat.reduceEqDiff, Int.reduceToNat, Int.reduceLE, Int.reduceLT, Int.reduceAdd, Int.reduceSub, Int.reduceNeg, Int.reduceBEq, Int.reduceBNe, Nat.reduceBNe, Nat.reduceDiv, Nat.reduceMod]
      · rcases Nat.lt_succ_iff_lt_or_eq.1 hj with h1 | rfl
        · exact hn j h1
        · exact hc
  · have h1 : i = L.length := by omega
    subst h1
    rw [findI_none hn]
    refine kont_of_hx cx_ok hb 200 ?_
    simp only [go_sem, Nat.reduceAdd, Nat.reduceSub, Nat.reduceMul, Nat.reduceBEq, Nat.reduceLT, Nat.reduceLeDiff, Nat.reduceEqDiff, Int.reduceToNat, Int.reduceLE, Int.reduceLT, Int.reduceAdd, Int.reduceSub, Int.reduceNeg, Int.reduceBEq, Int.reduceBNe, Nat.reduceBNe, Nat.reduceDiv, Nat.reduceMod]
end Go.Fg.X
namespace Go.Fg.X
open Go.Proofs Go.Fg
set_option maxRecDepth 100000
set_option maxHeartbeats 4000000
set_option linter.unusedSimpArgs false
set_option linter.unusedVariables false
/-- Rows of a list, from 'off' on. -/
structure RowsAt {α : Type} [Inhabited α] (enc : α → List D) (L : List α) (off : Nat) (row : Nat → List D) : Prop where
  at_ : ∀ i, i < L.length → row (off + i) = enc (L.getD i default)
  all : ∀ i, i < off + L.length → ∃ a, row i = enc a
/-- A slice of an array that the call made, as a list. -/
def RetS {α : Type} [Inhabited α] (sz : Nat) (enc : α → List D) (L : List α) (d : D) (h : List Ob) : Prop := ∃ g off row, d = .ref 0 g off L.length ∧ h = [⟨.arr, g, sz, off + L.length, row⟩] ∧ RowsAt enc L off row
theorem RetS.flat {α : Type} [Inhabited α] {sz : Nat} {enc : α → List D} {L : List α} (hf : ∀ a, flatL (enc a) = true) : ∀ d h, RetS sz enc L d h → d.flat = true ∧ ∀ o ∈ h, o.flat := by
  rintro d h ⟨g, off, row, rfl, rfl, hr⟩
  refine ⟨rfl, fun o ho i hi => ?_⟩
  simp at ho; subst ho
  obtain ⟨a, ha⟩ := hr.all i hi
  show flatL (row i) = true
  rw [ha]; exact hf a
theorem RowsAt.nil {α : Type} [Inhabited α] {enc : α → List D} {row : Nat → List D} : RowsAt enc [] 0 row := ⟨fun i hi => absurd hi (Nat.not_lt_zero i), fun i hi => absurd hi (Nat.not_lt_zero i)⟩
theorem RowsAt.app {α : Type} [Inhabited α] {enc : α → List D} {L : List α} {off : Nat} {row : Nat → List D} (h : RowsAt enc L off row) (x : α) {r2 : Nat → List D} (h2 : r2 0 = enc x) : RowsAt enc (L ++ [x]) 0 (appRow L.length off row r2) := by
  have key : ∀ i, i < L.length + 1 → appRow L.length off row r2 i = enc ((L ++ [x]).getD i default) := fun i hi => by
    by_cases hlt2 : i < L.length
    · rw [appRow_lt hlt2, h.at_ i hlt2]; simp [hlt2, List.getElem?_append_left hlt2]
    · have : i = L.length := by omega
      subst this
      rw [appRow_ge (Nat.le_refl _), Nat.sub_self, h2]; simp
  exact ⟨fun i hi => by simp at hi; rw [Nat.zero_add]; exact key i hi, fun i hi => by simp at hi; exact ⟨_, key i hi⟩⟩
theorem RowsAt.tail {α : Type} [Inhabited α] {enc : α → List D} {L : List α} {off : Nat} {row : Nat → List D} (h : RowsAt enc L off row) (hne : 0 < L.length) : RowsAt enc L.tail (off + 1) row := by
  refine ⟨fun i hi => ?_, fun i hi => h.all i (by simp at hi; omega)⟩
  simp at hi
  rw [show off + 1 + i = off + (i + 1) by omega, h.at_ (i + 1) (by omega)]
  cases L with
  | nil => simp at hi
  | cons a r => simp
theorem RowsAt.upto {α : Type} [Inhabited α] {enc : α → List D} {L : List α} {off : Nat} {row : Nat → List D} (h : RowsAt enc L off row) {k : Nat} (hu : ∀ a, uptoL k (enc a) = true) : ∀ i, i < off + L.length → uptoL k (row i) = true := fun i hi => by
  obtain ⟨a, ha⟩ := h.all i hi
  rw [ha]; exact hu a
theorem intUp (a : Int) : uptoL 1 [dint a] = true := rfl
/-- What was picked of the first ones of a list. -/
def chAt (L : List Kls) (g : Kls → Bool) : Nat → List Int
  | 0 => []
  | i + 1 => if g (L.getD i default) = true then chAt L g i ++ [(L.getD i default).iD] else chAt L g i
theorem chAt_len (L : List Kls) (g : Kls → Bool) : ∀ i, (chAt L g i).length ≤ i
  | 0 => Nat.le_refl _
  | i + 1 => by
    have := chAt_len L g i
    rw [chAt]; split
    · simp; omega
    · omega
theorem chAt_eq (L : List Kls) (g : Kls → Bool) : ∀ i, i ≤ L.length → chAt L g i = ((L.take i).filter g).map (·.iD)
  | 0, _ => by simp [chAt]
  | i + 1, h => by
    have hi : i < L.length := by omega
    rw [chAt, chAt_eq L g i (by omega), List.take_add_one, List.getElem?_eq_getElem hi]
    simp only [Option.toList_some, List.filter_append, List.map_append, List.getD_eq_getElem?_getD, List.getElem?_eq_getElem hi, Option.getD_some]
    by_cases hg : g L[i] = true
    · rw [if_pos hg, List.filter_cons_of_pos hg]; rfl
    · rw [if_neg hg, List.filter_cons_of_neg hg]; simp
theorem chAt_all (L : List Kls) (g : Kls → Bool) : chAt L g L.length = (L.filter g).map (·.iD) := by rw [chAt_eq L g _ (Nat.le_refl _), List.take_length]
theorem rchildren_ok (L : List Kls) (k : Int) (hl : L.length < 1000000) : AFn Try.prog 104 [kls L, dint k] (RetS 1 (fun n : Int => [dint n]) (childC L k)) := by
  have hall : childC L k = chAt L (fun y => y.parent == k) L.length := (chAt_all L _).symm
  refine AFn_hxk 1 cx_ok 200 Try.func104 rfl Try.ntmps104 Try.results104 rfl fun base w hb => ?_
  simp only [go_sem, Nat.reduceAdd, Nat.reduceSub, Nat.reduceMul, Nat.reduceBEq, Nat.reduceLT, Nat.reduceLeDiff, Nat.reduceEqDiff, Int.reduceToNat, Int.reduceLE, Int.reduceLT, Int.reduceAdd, Int.reduceSub, Int.reduceNeg, Int.reduceBEq, Int.reduceBNe, Nat.reduceBNe, Nat.reduceDiv, Nat.reduceMod]
  refine kont_for (fun i s => ∃ g off row, RowsAt (fun n : Int => [dint n]) (chAt L (fun y => y.parent == k) i) off row ∧ s = ⟨[(1, dint k), (5, .ref 0 g off (chAt L (fun y => y.parent == k) i).length), (8, kls L), (9, dint L.length), (10, dint i)], [⟨.arr, g, 1, off + (chAt L (fun y => y.parent == k) i).length, row⟩]⟩) L.length
    (s0 := ⟨[(1, dint k), (5, .ref 0 0 0 0), (8, kls L), (9, dint L.length), (10, dint 0)], [⟨.arr, 0, 1, 0, fun _ => []⟩]⟩)
    (Weak.trans (Weak.phantom 5 1 (fun i => []) rfl) (Weak.frame (by simp only [go_sem, Nat.reduceAdd, Nat.reduceSub, Nat.reduceMul, Nat.reduceBEq, Nat.reduceLT, Nat.reduceLeDiff, Nat.reduceEqDiff, Int.reduceToNat, Int.reduceLE, Int.reduceLT, Int.reduceAdd, Int.reduceSub, Int.reduceNeg, Int.reduceBEq, Int.reduceBNe, Nat.reduceBNe, Nat.reduceDiv, Nat.reduceMod]))) ⟨0, 0, fun _ => [], .nil, rfl⟩ ?_
  rintro i s hi ⟨g, off, row, hr, rfl⟩
  have hcl := chAt_len L (fun y => y.parent == k) i
  have hwr := wrap_succ (show i < 4611686018427387904 by omega)
  refine kont_of_hx cx_ok hb 200 ?_
  simp only [go_sem, Nat.reduceAdd, Nat.reduceSub, Nat.reduceMul, Nat.reduceBEq, Nat.reduceLT, Nat.reduceLeDiff, Nat.reduceEqDiff, Int.reduceToNat, Int.reduceLE, Int.reduceLT, Int.reduceAdd, Int.reduceSub, Int.reduceNeg, Int.reduceBEq, Int.reduceBNe, Nat.reduceBNe, Nat.reduceDiv, Nat.reduceMod]
  first | refine hite_lt hi (fun hk1 => ?_) (fun hk1 => ?_) | refine hite_ltI hi (fun hk1 => ?_) (fun hk1 => ?_)
  · obtain ⟨M, hM⟩ : ∃ M, M = chAt L (fun y => y.parent == k) i := ⟨_, rfl⟩
    obtain ⟨e, he⟩ : ∃ e, e = L.getD i default := ⟨_, rfl⟩
    have hst : chAt L (fun y => y.parent == k) (i + 1) = if (e.parent == k) = true then M ++ [e.iD] else M := by rw [hM, he]; rfl
    rw [← hM] at hr hcl ⊢
    simp only [go_sem, Nat.reduceAdd, Nat.reduceSub, Nat.reduceMul, Nat.reduceBEq, Nat.reduceLT, Nat.reduceLeDiff, Nat.reduceEqDiff, Int.reduceToNat, Int.reduceLE, Int.reduceLT, Int.reduceAdd, Int.reduceSub, Int.reduceNeg, Int.reduceBEq, Int.reduceBNe, Nat.reduceBNe, Nat.reduceDiv, Nat.reduceMod, hk1, ← he]
    by_cases hc : e.parent = k
    · rw [if_pos (beqT hc)] at hst
      have hb4 : M.length ≤ 4294967295 := by omega
      have hr2 : RowsAt (fun n : Int => [dint n]) (chAt L (fun y => y.parent == k) (i + 1)) 0 (appRow M.length off row fun _ => [dint e.iD]) := by rw [hst]; exact hr.app e.iD rfl
      have hl2 : (chAt L (fun y => y.parent == k) (i + 1)).length = M.length + 1 := by rw [hst]; simp
      simp only [go_sem, Nat.reduceAdd, Nat.reduceSub, Nat.reduceMul, Nat.reduceBEq, Nat.reduceLT, Nat.reduceLeDiff, Nat.reduceEqDiff, Int.reduceToNat, Int.reduceLE, Int.reduceLT, Int.reduceAdd, Int.reduceSub, Int.reduceNeg, Int.reduceBEq, Int.reduceBNe, Nat.reduceBNe, Nat.reduceDiv, Nat.reduceMod, beqT hc, hb4]
      refine ⟨hk1, _, Weak.to 1 ⟨?_, by simp only [go_sem, Nat.reduceAdd, Nat.reduceSub, Nat.reduceMul, Nat.reduceBEq, Nat.reduceLT, Nat.reduceLeDiff, Nat.reduceEqDiff, Int.reduceToNat, Int.reduceLE, Int.reduceLT, Int.reduceAdd, Int.reduceSub, Int.reduceNeg, Int.reduceBEq, Int.reduceBNe, Nat.reduceBNe, Nat.reduceDiv, Nat.reduceMod], ?_, ?_⟩, g + 1, 0, _, hr2, rfl⟩
      · simp only [go_sem, Nat.reduceAdd, Nat.reduceSub, Nat.reduceMul, Nat.reduceBEq, Nat.reduceLT, Nat.reduceLeDiff, Nat.reduceEqDiff, Int.reduceToNat, Int.reduceLE, Int.reduceLT, Int.reduceAdd, Int.reduceSub, Int.reduceNeg, Int.reduceBEq, Int.reduceBNe, Nat.reduceBNe, Nat.reduceDiv, Nat.reduceMod, hwr, hl2]
      · exact ⟨hr2.upto intUp, trivial⟩
      · simp only [go_sem, Nat.reduceAdd, Nat.reduceSub, Nat.reduceMul, Nat.reduceBEq, Nat.reduceLT, Nat.reduceLeDiff, Nat.reduceEqDiff, Int.reduceToNat, Int.reduceLE, Int.reduceLT, Int.reduceAdd, Int.reduceSub, Int.reduceNeg, Int.reduceBEq, Int.reduceBNe, Nat.reduceBNe, Nat.reduceDiv, Nat.reduceMod, hl2]
    · rw [if_neg (by simpa using hc)] at hst
      have hr2 : RowsAt (fun n : Int => [dint n]) (chAt L (fun y => y.parent == k) (i + 1)) off row := by rw [hst]; exact hr
      simp only [go_sem, Nat.reduceAdd, Nat.reduceSub, Nat.reduceMul, Nat.reduceBEq, Nat.reduceLT, Nat.reduceLeDiff, Nat.reduceEqDiff, Int.reduceToNat, Int.reduceLE, Int.reduceLT, Int.reduceAdd, Int.reduceSub, Int.reduceNeg, Int.reduceBEq, Int.reduceBNe, Nat.reduceBNe, Nat.reduceDiv, Nat.reduceMod, beqF hc]
      refine ⟨hk1, _, Weak.to 1 ⟨?_, by simp only [go_sem, Nat.reduceAdd, Nat.reduceSub, Nat.reduceMul, Nat.reduceBEq, Nat.reduceLT, Nat.reduceLeDiff, Nat.reduceEqDiff, Int.reduceToNat, Int.reduceLE, Int.reduceLT, Int.reduceAdd, Int.reduceSub, Int.reduceNeg, Int.reduceBEq, Int.reduceBNe, Nat.reduceBNe, Nat.reduceDiv, Nat.reduceMod], ?_, ?_⟩, g, off, row, hr2, rfl⟩
      · simp only [go_sem, Nat.reduceAdd, Nat.reduceSub, Nat.reduceMul, Nat.reduceBEq, Nat.reduceLT, Nat.reduceLeDiff, Nat.reduceEqDiff, Int.reduceToNat, Int.reduceLE, Int.reduceLT, Int.reduceAdd, Int.reduceSub, Int.reduceNeg, Int.reduceBEq, Int.reduceBNe, Nat.reduceBNe, Nat.reduceDiv, Nat.reduceMod, hwr, hst]
      · exact ⟨hr2.upto intUp, trivial⟩
      · simp only [go_sem, Nat.reduceAdd, Nat.reduceSub, Nat.reduceMul, Nat.reduceBEq, Nat.reduceLT, Nat.reduceLeDiff, Nat.reduceEqDiff, Int.reduceToNat, Int.reduceLE, Int.reduceLT, Int.reduceAdd, Int.reduceSub, Int.reduceNeg, Int.reduceBEq, Int.reduceBNe, Nat.reduceBNe, Nat.reduceDiv, Nat.reduceMod, hst]
  · have h1 : i = L.length := by omega
    subst h1
    rw [hall]
    refine kont_of_hx cx_ok hb 200 ?_
    simp only [go_sem, Nat.reduceAdd, Nat.reduceSub, Nat.reduceMul, Nat.reduceBEq, Nat.reduceLT, Nat.reduceLeDiff, Nat.reduceEqDiff, Int.reduceToNat, Int.reduceLE, Int.reduceLT, Int.reduceAdd, Int.reduceSub, Int.reduceNeg, Int.reduceBEq, Int.reduceBNe, Nat.reduceBNe, Nat.reduceDiv, Nat.reduceMod]
    exact ⟨hr.upto intUp, g, off, row, rfl, rfl, hr⟩
end Go.Fg.X
namespace Go.Fg.X
open Go.Proofs Go.Fg
set_option maxRecDepth 100000
set_option maxHeartbeats 4000000
set_option linter.unusedSimpArgs false
set_option linter.unusedVariables false
theorem findI_cases (L : List Kls) (k : Int) : (findC L k = none ∧ findI L k = -1) ∨ ∃ i, i < L.length ∧ findI L k = (i : Int) ∧ findC L k = some (L.getD i default) := by
  cases h : L.findIdx? (fun c => c.iD == k) with
  | none =>
    refine .inl ⟨?_, by rw [findI, h]⟩
    rw [findC, List.find?_eq_none]
    intro x hx
    have := List.findIdx?_eq_none_iff.1 h x hx
    simp [this]
  | some i =>
    obtain ⟨h1, h2, h3⟩ := List.findIdx?_eq_some_iff_getElem.1 h
    refine .inr ⟨i, h1, by rw [findI, h], ?_⟩
    rw [findC, List.find?_eq_some_iff_getElem]
    refine ⟨by simpa [List.getD_eq_getElem?_getD, h1] using h2, i, h1, by simp [List.getD_eq_getElem?_getD, h1], fun j hj => ?_⟩
    have := h3 j hj
    simpa using this
theorem rshares_ok (L : List Kls) (id : Int) (hl : L.length < 1000000) (hn : ∀ c ∈ L, c.Nn) : AFn Try.prog 102 [kls L, dint id] (Ret (dbool (sharesC L id))) := by
  refine AFn_hxk 0 cx_ok 200 Try.func102 rfl Try.ntmps102 Try.results102 rfl fun base w hb => ?_
  simp only [go_sem, Nat.reduceAdd, Nat.reduceSub, Nat.reduceMul, Nat.reduceBEq, Nat.reduceLT, Nat.reduceLeDiff, Nat.reduceEqDiff, Int.reduceToNat, Int.reduceLE, Int.reduceLT, Int.reduceAdd, Int.reduceSub, Int.reduceNeg, Int.reduceBEq, Int.reduceBNe, Nat.reduceBNe, Nat.reduceDiv, Nat.reduceMod]
  refine kont_call hb fn100 rfl ?_ (rfind_ok L id hl) (Ret.flat rfl) rfl fun d h hR => ?_
  · simp only [go_sem, Nat.reduceAdd, Nat.reduceSub, Nat.reduceMul, Nat.reduceBEq, Nat.reduceLT, Nat.reduceLeDiff, Nat.reduceEqDiff, Int.reduceToNat, Int.reduceLE, Int.reduceLT, Int.reduceAdd, Int.reduceSub, Int.reduceNeg, Int.reduceBEq, Int.reduceBNe, Nat.reduceBNe, Nat.reduceDiv, Nat.reduceMod]
  obtain ⟨rfl, rfl⟩ := hR
  refine kont_of_hx cx_ok hb 200 ?_
  simp only [go_sem, Nat.reduceAdd, Nat.reduceSub, Nat.reduceMul, Nat.reduceBEq, Nat.reduceLT, Nat.reduceLeDiff, Nat.reduceEqDiff, Int.reduceToNat, Int.reduceLE, Int.reduceLT, Int.reduceAdd, Int.reduceSub, Int.reduceNeg, Int.reduceBEq, Int.reduceBNe, Nat.reduceBNe, Nat.reduceDiv, Nat.reduceMod]
  by_cases h0 : id = 0
  · have e : sharesC L id = true := by simp [sharesC, h0]
    simp only [go_sem, Nat.reduceAdd, Nat.reduceSub, Nat.reduceMul, Nat.reduceBEq, Nat.reduceLT, Nat.reduceLeDiff, Nat.reduceEqDiff, Int.reduceToNat, Int.reduceLE, Int.reduceLT, Int.reduceAdd, Int.reduceSub, Int.reduceNeg, Int.reduceBEq, Int.reduceBNe, Nat.reduceBNe, Nat.reduceDiv, Nat.reduceMod, beqT h0, Go.undef, e]
  · have e : sharesC L id = decide (1 < ofI ((findC L id).getD default).ls) := by simp [sharesC, h0]
    rw [e]
    simp only [go_sem, Nat.reduceAdd, Nat.reduceSub, Nat.reduceMul, Nat.reduceBEq, Nat.reduceLT, Nat.reduceLeDiff, Nat.reduceEqDiff, Int.reduceToNat, Int.reduceLE, Int.reduceLT, Int.reduceAdd, Int.reduceSub, Int.reduceNeg, Int.reduceBEq, Int.reduceBNe, Nat.reduceBNe, Nat.reduceDiv, Nat.reduceMod, beqF h0, Go.undef]
    rcases findI_cases L id with ⟨h1, h2⟩ | ⟨i, hi, h2, h1⟩
    · rw [h1, h2]
      simp only [go_sem, Nat.reduceAdd, Nat.reduceSub, Nat.reduceMul, Nat.reduceBEq, Nat.reduceLT, Nat.reduceLeDiff, Nat.reduceEqDiff, Int.reduceToNat, Int.reduceLE, Int.reduceLT, Int.reduceAdd, Int.reduceSub, Int.reduceNeg, Int.reduceBEq, Int.reduceBNe, Nat.reduceBNe, Nat.reduceDiv, Nat.reduceMod, Go.undef]
      rfl
    · rw [h1, h2]
      have hmem : L.getD i default ∈ L := by rw [List.getD_eq_getElem?_getD, List.getElem?_eq_getElem hi]; exact List.getElem_mem hi
      have hN := hn _ hmem
      have hge : (0 : Int) ≤ (i : Int) := by omega
      simp only [go_sem, Nat.reduceAdd, Nat.reduceSub, Nat.reduceMul, Nat.reduceBEq, Nat.reduceLT, Nat.reduceLeDiff, Nat.reduceEqDiff, Int.reduceToNat, Int.reduceLE, Int.reduceLT, Int.reduceAdd, Int.reduceSub, Int.reduceNeg, Int.reduceBEq, Int.reduceBNe, Nat.reduceBNe, Nat.reduceDiv, Nat.reduceMod, Go.undef, decide_eq_true hge, hi]
      refine kont_call hb fn101 rfl ?_ (rofcI_ok (L.getD i default).ls hN.2.1.1 hN.2.1.2.1 hN.2.1.2.2) (Ret.flat rfl) rfl fun d h hR => ?_
      · simp only [go_sem, Nat.reduceAdd, Nat.reduceSub, Nat.reduceMul, Nat.reduceBEq, Nat.reduceLT, Nat.reduceLeDiff, Nat.reduceEqDiff, Int.reduceToNat, Int.reduceLE, Int.reduceLT, Int.reduceAdd, Int.reduceSub, Int.reduceNeg, Int.reduceBEq, Int.reduceBNe, Nat.reduceBNe, Nat.reduceDiv, Nat.reduceMod, Go.undef, Option.getD_some]
      obtain ⟨rfl, rfl⟩ := hR
      refine kont_of_hx cx_ok hb 200 ?_
      simp only [go_sem, Nat.reduceAdd, Nat.reduceSub, Nat.reduceMul, Nat.reduceBEq, Nat.reduceLT, Nat.reduceLeDiff, Nat.reduceEqDiff, Int.reduceToNat, Int.reduceLE, Int.reduceLT, Int.reduceAdd, Int.reduceSub, Int.reduceNeg, Int.reduceBEq, Int.reduceBNe, Nat.reduceBNe, Nat.reduceDiv, Nat.reduceMod, Go.undef, Option.getD_some]
end Go.Fg.X
namespace Go.Fg.X
open Go.Proofs Go.Fg
set_option maxRecDepth 100000
set_option maxHeartbeats 4000000
set_option linter.unusedSimpArgs false
set_option linter.unusedVariables false
theorem rup_ok (L : List Kls) (id : Int) (hl : L.length < 1000000) : AFn Try.prog 70 [kls L, dint id] (RetS 1 (fun n : Int => [dint n]) (upF L 70 id)) := by
  refine AFn_hxk 1 cx_ok 200 Try.func70 rfl Try.ntmps70 Try.results70 rfl fun base w hb => ?_
  simp only [go_sem, Nat.reduceAdd, Nat.reduceSub, Nat.reduceMul, Nat.reduceBEq, Nat.reduceLT, Nat.reduceLeDiff, Nat.reduceEqDiff, Int.reduceToNat, Int.reduceLE, Int.reduceLT, Int.reduceAdd, Int.reduceSub, Int.reduceNeg, Int.reduceBEq, Int.reduceBNe, Nat.reduceBNe, Nat.reduceDiv, Nat.reduceMod]
  refine kont_for (fun i s => ∃ dn cur g off row, dn ++ upF L (70 - i) cur = upF L 70 id ∧ dn.length = i ∧ RowsAt (fun n : Int => [dint n]) dn off row ∧ s = ⟨[(0, kls L), (5, .ref 0 g off dn.length), (6, dint cur), (9, dint i)], [⟨.arr, g, 1, off + dn.length, row⟩]⟩) 70
    (s0 := ⟨[(0, kls L), (5, .ref 0 0 0 0), (6, dint id), (9, dint 0)], [⟨.arr, 0, 1, 0, fun _ => []⟩]⟩)
    (Weak.trans (Weak.phantom 5 1 (fun i => []) rfl) (Weak.frame (by simp only [go_sem, Nat.reduceAdd, Nat.reduceSub, Nat.reduceMul, Nat.reduceBEq, Nat.reduceLT, Nat.reduceLeDiff, Nat.reduceEqDiff, Int.reduceToNat, Int.reduceLE, Int.reduceLT, Int.reduceAdd, Int.reduceSub, Int.reduceNeg, Int.reduceBEq, Int.reduceBNe, Nat.reduceBNe, Nat.reduceDiv, Nat.reduceMod]))) ⟨[], id, 0, 0, fun _ => [], rfl, rfl, .nil, rfl⟩ ?_
  rintro i s hi ⟨dn, cur, g, off, row, hd, hdl, hr, rfl⟩
  have hwr := wrap_succ (show i < 4611686018427387904 by omega)
  by_cases hk1 : i < 70
  · have hki : ((i : Int) < 70) := by omega
    obtain ⟨n, hn⟩ : ∃ n, 70 - i = n + 1 := ⟨69 - i, by omega⟩
    have hn2 : 70 - (i + 1) = n := by omega
    rw [hn, upF] at hd
    rcases findI_cases L cur with ⟨h1, h2⟩ | ⟨j, hj, h2, h1⟩
    · rw [h1, List.append_nil] at hd
      rw [← hd]
      refine kont_of_hx cx_ok hb 200 ?_
      simp only [go_sem, Nat.reduceAdd, Nat.reduceSub, Nat.reduceMul, Nat.reduceBEq, Nat.reduceLT, Nat.reduceLeDiff, Nat.reduceEqDiff, Int.reduceToNat, Int.reduceLE, Int.reduceLT, Int.reduceAdd, Int.reduceSub, Int.reduceNeg, Int.reduceBEq, Int.reduceBNe, Nat.reduceBNe, Nat.reduceDiv, Nat.reduceMod, hki, decide_eq_true hki]
      refine kont_call hb fn100 rfl ?_ (rfind_ok L cur hl) (Ret.flat rfl) rfl fun d h hR => ?_
      · simp only [go_sem, Nat.reduceAdd, Nat.reduceSub, Nat.reduceMul, Nat.reduceBEq, Nat.reduceLT, Nat.reduceLeDiff, Nat.reduceEqDiff, Int.reduceToNat, Int.reduceLE, Int.reduceLT, Int.reduceAdd, Int.reduceSub, Int.reduceNeg, Int.reduceBEq, Int.reduceBNe, Nat.reduceBNe, Nat.reduceDiv, Nat.reduceMod, h2]
      obtain ⟨rfl, rfl⟩ := hR
      refine kont_of_hx cx_ok hb 200 ?_
      simp only [go_sem, Nat.reduceAdd, Nat.reduceSub, Nat.reduceMul, Nat.reduceBEq, Nat.reduceLT, Nat.reduceLeDiff, Nat.reduceEqDiff, Int.reduceToNat, Int.reduceLE, Int.reduceLT, Int.reduceAdd, Int.reduceSub, Int.reduceNeg, Int.reduceBEq, Int.reduceBNe, Nat.reduceBNe, Nat.reduceDiv, Nat.reduceMod, h2]
      refine kont_of_hx cx_ok hb 200 ?_
      simp only [go_sem, Nat.reduceAdd, Nat.reduceSub, Nat.reduceMul, Nat.reduceBEq, Nat.reduceLT, Nat.reduceLeDiff, Nat.reduceEqDiff, Int.reduceToNat, Int.reduceLE, Int.reduceLT, Int.reduceAdd, Int.reduceSub, Int.reduceNeg, Int.reduceBEq, Int.reduceBNe, Nat.reduceBNe, Nat.reduceDiv, Nat.reduceMod]
      exact ⟨hr.upto intUp, g, off, row, rfl, rfl, hr⟩
    · rw [h1] at hd
      have hb4 : dn.length ≤ 4294967295 := by omega
      have hr2 : RowsAt (fun n : Int => [dint n]) (dn ++ [cur]) 0 (appRow dn.length off row fun _ => [dint cur]) := hr.app cur rfl
      have hge : ¬ ((j : Int) < 0) := by omega
      refine kont_of_hx cx_ok hb 200 ?_
      simp only [go_sem, Nat.reduceAdd, Nat.reduceSub, Nat.reduceMul, Nat.reduceBEq, Nat.reduceLT, Nat.reduceLeDiff, Nat.reduceEqDiff, Int.reduceToNat, Int.reduceLE, Int.reduceLT, Int.reduceAdd, Int.reduceSub, Int.reduceNeg, Int.reduceBEq, Int.reduceBNe, Nat.reduceBNe, Nat.reduceDiv, Nat.reduceMod, hki, decide_eq_true hki]
      refine kont_call hb fn100 rfl ?_ (rfind_ok L cur hl) (Ret.flat rfl) rfl fun d h hR => ?_
      · simp only [go_sem, Nat.reduceAdd, Nat.reduceSub, Nat.reduceMul, Nat.reduceBEq, Nat.reduceLT, Nat.reduceLeDiff, Nat.reduceEqDiff, Int.reduceToNat, Int.reduceLE, Int.reduceLT, Int.reduceAdd, Int.reduceSub, Int.reduceNeg, Int.reduceBEq, Int.reduceBNe, Nat.reduceBNe, Nat.reduceDiv, Nat.reduceMod, h2, hb4, decide_eq_false hge, hj]
      obtain ⟨rfl, rfl⟩ := hR
      refine kont_of_hx cx_ok hb 200 ?_
      simp only [go_sem, Nat.reduceAdd, Nat.reduceSub, Nat.reduceMul, Nat.reduceBEq, Nat.reduceLT, Nat.reduceLeDiff, Nat.reduceEqDiff, Int.reduceToNat, Int.reduceLE, Int.reduceLT, Int.reduceAdd, Int.reduceSub, Int.reduceNeg, Int.reduceBEq, Int.reduceBNe, Nat.reduceBNe, Nat.reduceDiv, Nat.reduceMod, h2, hb4, decide_eq_false hge, hj]
      refine ⟨hk1, _, Weak.to 1 ⟨?_, by simp only [go_sem, Nat.reduceAdd, Nat.reduceSub, Nat.reduceMul, Nat.reduceBEq, Nat.reduceLT, Nat.reduceLeDiff, Nat.reduceEqDiff, Int.reduceToNat, Int.reduceLE, Int.reduceLT, Int.reduceAdd, Int.reduceSub, Int.reduceNeg, Int.reduceBEq, Int.reduceBNe, Nat.reduceBNe, Nat.reduceDiv, Nat.reduceMod], ?_, ?_⟩, dn ++ [cur], (L.getD j default).parent, g + 1, 0, _, ?_, by simp [hdl], hr2, rfl⟩
      · simp only [go_sem, Nat.reduceAdd, Nat.reduceSub, Nat.reduceMul, Nat.reduceBEq, Nat.reduceLT, Nat.reduceLeDiff, Nat.reduceEqDiff, Int.reduceToNat, Int.reduceLE, Int.reduceLT, Int.reduceAdd, Int.reduceSub, Int.reduceNeg, Int.reduceBEq, Int.reduceBNe, Nat.reduceBNe, Nat.reduceDiv, Nat.reduceMod, hwr, List.length_append, List.length_singleton]
      · exact ⟨hr2.upto intUp, trivial⟩
      · simp only [go_sem, Nat.reduceAdd, Nat.reduceSub, Nat.reduceMul, Nat.reduceBEq, Nat.reduceLT, Nat.reduceLeDiff, Nat.reduceEqDiff, Int.reduceToNat, Int.reduceLE, Int.reduceLT, Int.reduceAdd, Int.reduceSub, Int.reduceNeg, Int.reduceBEq, Int.reduceBNe, Nat.reduceBNe, Nat.reduceDiv, Nat.reduceMod, List.length_append, List.length_singleton]
      · rw [hn2, ← hd]; simp
  · have h1 : i = 70 := by omega
    subst h1
    rw [upF, List.append_nil] at hd
    rw [← hd]
    have h70 : decide (((70 : Nat) : Int) < 70) = false := by decide
    refine kont_of_hx cx_ok hb 200 ?_
    simp only [go_sem, Nat.reduceAdd, Nat.reduceSub, Nat.reduceMul, Nat.reduceBEq, Nat.reduceLT, Nat.reduceLeDiff, Nat.reduceEqDiff, Int.reduceToNat, Int.reduceLE, Int.reduceLT, Int.reduceAdd, Int.reduceSub, Int.reduceNeg, Int.reduceBEq, Int.reduceBNe, Nat.reduceBNe, Nat.reduceDiv, Nat.reduceMod, h70]
    refine kont_of_hx cx_ok hb 200 ?_
    simp only [go_sem, Nat.reduceAdd, Nat.reduceSub, Nat.reduceMul, Nat.reduceBEq, Nat.reduceLT, Nat.reduceLeDiff, Nat.reduceEqDiff, Int.reduceToNat, Int.reduceLE, Int.reduceLT, Int.reduceAdd, Int.reduceSub, Int.reduceNeg, Int.reduceBEq, Int.reduceBNe, Nat.reduceBNe, Nat.reduceDiv, Nat.reduceMod]
    exact ⟨hr.upto intUp, g, off, row, rfl, rfl, hr⟩
end Go.Fg.X
namespace Go.Fg.X
open Go.Proofs Go.Fg
set_option maxRecDepth 100000
set_option maxHeartbeats 4000000
set_option linter.unusedSimpArgs false
set_option linter.unusedVariables false
/-- What the reference's put has done behind the first i classes: the list, and whether the class was put. -/
def putAt (L : List Kls) (x : Kls) : Nat → List Kls × Bool
  | 0 => ([], false)
  | i + 1 =>
    let o := if !(putAt L x i).2 && decide (x.iD ≤ (L.getD i default).iD) then (putAt L x i).1 ++ [x] else (putAt L x i).1
    (if (L.getD i default).iD ≠ x.iD then o ++ [L.getD i default] else o, (putAt L x i).2 || decide (x.iD ≤ (L.getD i default).iD))
def putOut (L : List Kls) (x : Kls) : List Kls := if (putAt L x L.length).2 then (putAt L x L.length).1 else (putAt L x L.length).1 ++ [x]
/-- The same by the list's own steps. -/
def putGo (x : Kls) : List Kls → List Kls × Bool → List Kls × Bool
  | [], s => s
  | c :: r, s =>
    let o := if !s.2 && decide (x.iD ≤ c.iD) then s.1 ++ [x] else s.1
    putGo x r (if c.iD ≠ x.iD then o ++ [c] else o, s.2 || decide (x.iD ≤ c.iD))
theorem putGo_snoc (x : Kls) : ∀ (L : List Kls) (c : Kls) (s : List Kls × Bool), putGo x (L ++ [c]) s = putGo x [c] (putGo x L s)
  | [], c, s => rfl
  | d :: L, c, s => by simp only [List.cons_append]; rw [putGo, putGo_snoc x L c]; rfl
theorem putAt_go (L : List Kls) (x : Kls) : ∀ i, i ≤ L.length → putAt L x i = putGo x (L.take i) ([], false)
  | 0, _ => by simp [putAt, putGo]
  | i + 1, h => by
    have hi : i < L.length := by omega
    rw [List.take_add_one, List.getElem?_eq_getElem hi, Option.toList_some, putGo_snoc, ← putAt_go L x i (by omega)]
    simp only [putAt, putGo, List.getD_eq_getElem?_getD, List.getElem?_eq_getElem hi, Option.getD_some]
theorem putGo_true (x : Kls) : ∀ (L o : List Kls), (∀ c ∈ L, c.iD ≠ x.iD) → putGo x L (o, true) = (o ++ L, true)
  | [], o, _ => by simp [putGo]
  | c :: L, o, h => by
    have h1 := h c (by simp)
    simp only [putGo, Bool.not_true, Bool.false_and, Bool.false_eq_true, if_false, Bool.true_or]
    rw [if_pos h1, putGo_true x L _ fun d hd => h d (by simp [hd])]
    simp
theorem putGo_putC (x : Kls) : ∀ (L o : List Kls), Rising L → (let s := putGo x L (o, false); if s.2 then s.1 else s.1 ++ [x]) = o ++ putC L x
  | [], o, _ => by simp [putGo, putC]
  | c :: L, o, h => by
    have hr : Rising L := List.Pairwise.of_cons h
    have hc : ∀ d ∈ L, c.iD < d.iD := fun d hd => (List.pairwise_cons.1 h).1 d hd
    simp only [putGo, putC, Bool.not_false, Bool.true_and, Bool.false_or, decide_eq_true_eq]
    by_cases h1 : x.iD < c.iD
    · have h2 : x.iD ≤ c.iD := by omega
      have h3 : c.iD ≠ x.iD := by omega
      rw [if_pos h1, if_pos h2, if_pos h3, decide_eq_true h2, putGo_true x L _ fun d hd => by have := hc d hd; omega]
      simp
    · by_cases h2 : c.iD = x.iD
      · have h4 : x.iD ≤ c.iD := by omega
        rw [if_neg h1, if_pos h2, if_pos h4, if_neg (show ¬ (c.iD ≠ x.iD) from fun hn => hn h2), decide_eq_true h4, putGo_true x L _ fun d hd => by have := hc d hd; omega]
        simp
      · have h4 : ¬ x.iD ≤ c.iD := by omega
        have ih := putGo_putC x L (o ++ [c]) hr
        simp only at ih
        rw [if_neg h1, if_neg h2, if_neg h4, if_pos h2, decide_eq_false h4, ih]
        simp
theorem putOut_eq {L : List Kls} (h : Rising L) (x : Kls) : putOut L x = putC L x := by
  have := putGo_putC x L [] h
  simp only [List.nil_append] at this
  rw [putOut, putAt_go L x _ (Nat.le_refl _), List.take_length, this]
end Go.Fg.X
namespace Go.Fg.X
open Go.Proofs Go.Fg
open Go.RowKit (Below)
set_option maxRecDepth 100000
set_option maxHeartbeats 4000000
set_option linter.unusedSimpArgs false
set_option linter.unusedVariables false
theorem immTo {N : Nat → Prop} {w : World} {sz n : Nat} {row row' : Nat → List D} {v : Value} (h : Cl N w (.imm sz n row) v) (e : ∀ i, i < n → row i = row' i) : Cl N w (.imm sz n row') v := by
  cases h with
  | imm _ _ _ a cap b o vs ha hl hs hc hr => exact .imm sz n row' a cap b o vs ha hl (fun i hi => by rw [← e i hi]; exact hs i hi) hc (fun i j hi hj => by rw [← e i hi]; exact hr i j hi hj)
theorem RelO.nil {Z : Nat → Prop} {base : Nat} {w : World} : RelO Z base [] [] w := ⟨rfl, fun l l' b q q' e1 e2 => by simp at e1, fun l o e => by simp at e, fun l o b q e => by simp at e⟩
/-- A slice that the call made, told as a closed value. -/
theorem freezeS {P : Program} {f : FuncId} {args : List D} {α : Type} [Inhabited α] {sz : Nat} {enc : α → List D} {L : List α} (henc : ∀ a, (enc a).all D.cl1 = true) (h : AFn P f args (RetS sz enc L)) :
    AFn P f args (Ret (.imm sz L.length (fun i => enc (L.getD i default)))) := by
  intro Z base w pl vs h1 h2 h3 hl hc
  have hpl : pl = [] := by have := h3.len; simpa using this
  subst hpl
  refine (h Z base w [] vs h1 h2 h3 hl hc).mono fun e w' he => ?_
  obtain ⟨v, d, hh, pl', rfl, ⟨g, off, row, rfl, rfl, hr⟩, hO, hV, hT, hB⟩ := he
  have hlen : pl'.length = 1 := by have := hO.len; simpa using this
  obtain ⟨p, rfl⟩ : ∃ p, pl' = [p] := by
    match pl', hlen with
    | [p], _ => exact ⟨p, rfl⟩
  have hfz := hV.fz (l := 0) (o := ⟨.arr, g, sz, off + L.length, row⟩) (p := p) rfl rfl rfl (fun b q e => by
    subst e
    refine ⟨h2 b ?_, fun l' q' e' => ?_, (hO.at_ 0 _ b q rfl rfl).2.cells rfl⟩
    · rcases Nat.lt_or_ge b w.heap.size with hlt | hge
      · exact absurd rfl ((hT.old b (fun i q e => by simp at e) hlt).1 0 q)
      · exact hge
    · have := ltp_of_some e'; simp at this; exact this) (fun i hi => by
    obtain ⟨a, ha⟩ := hr.all i hi
    show (row i).all D.cl1 = true
    rw [ha]; exact henc a) (h' := [Ob.gone ⟨.arr, g, sz, off + L.length, row⟩]) (fun l' o' hne e => by
    have := lt_of_some e
    simp at this; exact absurd this hne)
  have e1 : D.fz 0 g (off + L.length) sz row (.ref 0 g off L.length) = .imm sz L.length (rowFrom off row) := by simp [D.fz, nat_ble]
  simp only [e1] at hfz
  have hcl := (cl1_ok hfz rfl).mono (N' := free Z []) (w' := w') fun b hb _ => ⟨⟨hb.1, fun l q e => by simp at e⟩, rfl⟩
  refine ⟨v, _, [], [], rfl, ⟨rfl, rfl⟩, RelO.nil, .cl _ _ (immTo hcl fun i hi => hr.at_ i hi), ⟨fun b hb hlt => ⟨hb, (hT.old b hb hlt).2⟩, fun l o p e => by simp at e, fun l o o' b q e => by simp at e⟩, hB⟩
/-- The same, of what holds such a slice. -/
theorem freezeG {P : Program} {f : FuncId} {args : List D} {R : D → List Ob → Prop} (d2 : D) (hu : d2.upto 0 = true)
    (hd : ∀ d hh, R d hh → ∃ g sz n row, hh = [⟨.arr, g, sz, n, row⟩] ∧ (∀ i, i < n → (row i).all D.cl1 = true) ∧ dLe 6 (D.fz 0 g n sz row d) d2) (h : AFn P f args R) : AFn P f args (Ret d2) := by
  intro Z base w pl vs h1 h2 h3 hl hc
  have hpl : pl = [] := by have := h3.len; simpa using this
  subst hpl
  refine (h Z base w [] vs h1 h2 h3 hl hc).mono fun e w' he => ?_
  obtain ⟨v, d, hh, pl', rfl, hR, hO, hV, hT, hB⟩ := he
  obtain ⟨g, sz, n, row, rfl, hcl, hle⟩ := hd _ _ hR
  have hlen : pl'.length = 1 := by have := hO.len; simpa using this
  obtain ⟨p, rfl⟩ : ∃ p, pl' = [p] := by
    match pl', hlen with
    | [p], _ => exact ⟨p, rfl⟩
  have hfz := hV.fz (l := 0) (o := ⟨.arr, g, sz, n, row⟩) (p := p) rfl rfl rfl (fun b q e => by
    subst e
    refine ⟨h2 b ?_, fun l' q' e' => ?_, (hO.at_ 0 _ b q rfl rfl).2.cells rfl⟩
    · rcases Nat.lt_or_ge b w.heap.size with hlt | hge
      · exact absurd rfl ((hT.old b (fun i q e => by simp at e) hlt).1 0 q)
      · exact hge
    · have := ltp_of_some e'; simp at this; exact this) hcl (h' := [Ob.gone ⟨.arr, g, sz, n, row⟩]) (fun l' o' hne e => by
    have := lt_of_some e
    simp at this; exact absurd this hne)
  have h5 := (dLe_rel 6 hle hfz).take hu
  exact ⟨v, _, [], [], rfl, ⟨rfl, rfl⟩, RelO.nil, h5, ⟨fun b hb hlt => ⟨hb, (hT.old b hb hlt).2⟩, fun l o p e => by simp at e, fun l o o' b q e => by simp at e⟩, hB⟩
/-- What holds a built slice and a number. -/
def RetSN {α : Type} [Inhabited α] (sz : Nat) (enc : α → List D) (L : List α) (v : Value) (d : D) (h : List Ob) : Prop := ∃ g off row, d = .agg [.ref 0 g off L.length, .raw v] ∧ h = [⟨.arr, g, sz, off + L.length, row⟩] ∧ RowsAt enc L off row
theorem freezeSN {P : Program} {f : FuncId} {args : List D} {α : Type} [Inhabited α] {sz : Nat} {enc : α → List D} {L : List α} {v : Value} (henc : ∀ a, (enc a).all D.cl1 = true) (h : AFn P f args (RetSN sz enc L v)) :
    AFn P f args (Ret (.agg [.imm sz L.length (fun i => enc (L.getD i default)), .raw v])) := by
  refine freezeG _ rfl ?_ h
  rintro d hh ⟨g, off, row, rfl, rfl, hr⟩
  refine ⟨g, sz, _, row, rfl, fun i hi => ?_, ?_⟩
  · obtain ⟨a, ha⟩ := hr.all i hi
    rw [ha]; exact henc a
  · have e1 : D.fz 0 g (off + L.length) sz row (.agg [.ref 0 g off L.length, .raw v]) = .agg [.imm sz L.length (rowFrom off row), .raw v] := by simp [D.fz, fzL, nat_ble]
    rw [e1, dLe_agg, lLe_cons, lLe_cons, dLe_imm, dLe_raw]
    refine ⟨⟨rfl, rfl, fun i hi => ?_⟩, rfl, lLe_nil ▸ trivial⟩
    rw [rowFrom_at, hr.at_ i hi]
    exact lLeOf_refl (dLe_refl _) _
end Go.Fg.X
namespace Go.Fg.X
open Go.Proofs Go.Fg
set_option maxRecDepth 100000
set_option maxHeartbeats 4000000
set_option linter.unusedSimpArgs false
set_option linter.unusedVariables false
theorem klsUp (a : Kls) : uptoL 1 a.cells = true := rfl
theorem klsUp2 (a : Kls) : uptoL 2 a.cells = true := rfl
theorem putAt_len (L : List Kls) (x : Kls) : ∀ i, (putAt L x i).1.length ≤ 2 * i
  | 0 => Nat.le_refl _
  | i + 1 => by
    have := putAt_len L x i
    simp only [putAt]
    split <;> split <;> simp <;> omega
theorem RowsAt.ren1 {L : List Kls} {off : Nat} {row : Nat → List D} (h : RowsAt Kls.cells L off row) : RowsAt Kls.cells L off (fun i => renL [1] (row i)) :=
  ⟨fun i hi => by show renL [1] (row (off + i)) = _; rw [h.at_ i hi]; rfl, fun i hi => by obtain ⟨a, ha⟩ := h.all i hi; exact ⟨a, by show renL [1] (row i) = _; rw [ha]; rfl⟩⟩
theorem RowsAt.among1 {L : List Kls} {off : Nat} {row : Nat → List D} (h : RowsAt Kls.cells L off row) : ∀ i, i < off + L.length → amongL [1] (row i) = true := fun i hi => by
  obtain ⟨a, ha⟩ := h.all i hi
  rw [ha]; rfl
theorem rput_ok (L : List Kls) (x : Kls) (hl : L.length < 1000000) : AFn Try.prog 103 [kls L, dkl x] (RetS 14 Kls.cells (putOut L x)) := by
  refine AFn_hxs [1] rfl cx_ok 200 Try.func103 rfl Try.ntmps103 Try.results103 rfl fun base w hb => ?_
  simp only [go_sem, Nat.reduceAdd, Nat.reduceSub, Nat.reduceMul, Nat.reduceBEq, Nat.reduceLT, Nat.reduceLeDiff, Nat.reduceEqDiff, Int.reduceToNat, Int.reduceLE, Int.reduceLT, Int.reduceAdd, Int.reduceSub, Int.reduceNeg, Int.reduceBEq, Int.reduceBNe, Nat.reduceBNe, Nat.reduceDiv, Nat.reduceMod]
  refine kont_for (fun i s => ∃ g off row, RowsAt Kls.cells (putAt L x i).1 off row ∧ s = ⟨[(3, .ptr 0 0 0 0), (5, .ref 1 g off (putAt L x i).1.length), (6, dbool (putAt L x i).2), (9, kls L), (10, dint L.length), (11, dint i)], [⟨.one, 0, 14, 1, fun _ => x.cells⟩, ⟨.arr, g, 14, off + (putAt L x i).1.length, row⟩]⟩) L.length
    (s0 := ⟨[(3, .ptr 0 0 0 0), (5, .ref 1 0 0 0), (6, dbool false), (9, kls L), (10, dint L.length), (11, dint 0)], [⟨.one, 0, 14, 1, fun _ => x.cells⟩, ⟨.arr, 0, 14, 0, fun _ => []⟩]⟩)
    (Weak.trans (Weak.phantom 5 14 (fun i => []) rfl) (Weak.to 2 (by (simp only [go_sem, Nat.reduceAdd, Nat.reduceSub, Nat.reduceMul, Nat.reduceBEq, Nat.reduceLT, Nat.reduceLeDiff, Nat.reduceEqDiff, Int.reduceToNat, Int.reduceLE, Int.reduceLT, Int.reduceAdd, Int.reduceSub, Int.reduceNeg, Int.reduceBEq, Int.reduceBNe, Nat.reduceBNe, Nat.reduceDiv, Nat.reduceMod]) <;> simp))) ⟨0, 0, fun _ => [], .nil, rfl⟩ ?_
  rintro i s hi ⟨g, off, row, hr, rfl⟩
  have hcl := putAt_len L x i
  have hwr := wrap_succ (show i < 4611686018427387904 by omega)
  refine kont_of_hx cx_ok hb 200 ?_
  simp only [go_sem, Nat.reduceAdd, Nat.reduceSub, Nat.reduceMul, Nat.reduceBEq, Nat.reduceLT, Nat.reduceLeDiff, Nat.reduceEqDiff, Int.reduceToNat, Int.reduceLE, Int.reduceLT, Int.reduceAdd, Int.reduceSub, Int.reduceNeg, Int.reduceBEq, Int.reduceBNe, Nat.reduceBNe, Nat.reduceDiv, Nat.reduceMod]
  first | refine hite_lt hi (fun hk1 => ?_) (fun hk1 => ?_) | refine hite_ltI hi (fun hk1 => ?_) (fun hk1 => ?_)
  · obtain ⟨M, hM⟩ : ∃ M, M = (putAt L x i).1 := ⟨_, rfl⟩
    obtain ⟨dn, hdn⟩ : ∃ dn, dn = (putAt L x i).2 := ⟨_, rfl⟩
    obtain ⟨e, he⟩ : ∃ e, e = L.getD i default := ⟨_, rfl⟩
    have hst : putAt L x (i + 1) = (if e.iD ≠ x.iD then (if !dn && decide (x.iD ≤ e.iD) then M ++ [x] else M) ++ [e] else (if !dn && decide (x.iD ≤ e.iD) then M ++ [x] else M), dn || decide (x.iD ≤ e.iD)) := by rw [hM, hdn, he]; rfl
    rw [← hM] at hr hcl ⊢
    rw [← hdn]
    have hb4 : M.length ≤ 4294967295 := by omega
    have hb5 : M.length + 1 ≤ 4294967295 := by omega
    have hrx : RowsAt Kls.cells (M ++ [x]) 0 (appRow M.length off row fun _ => x.cells) := hr.app x rfl
    have hre : RowsAt Kls.cells (M ++ [e]) 0 (appRow M.length off row fun _ => e.cells) := hr.app e rfl
    have hrxe : RowsAt Kls.cells (M ++ [x] ++ [e]) 0 (appRow (M ++ [x]).length 0 (appRow M.length off row fun _ => x.cells) fun _ => e.cells) := hrx.app e rfl
    have hlx : (M ++ [x]).length = M.length + 1 := by simp
    simp only [go_sem, Nat.reduceAdd, Nat.reduceSub, Nat.reduceMul, Nat.reduceBEq, Nat.reduceLT, Nat.reduceLeDiff, Nat.reduceEqDiff, Int.reduceToNat, Int.reduceLE, Int.reduceLT, Int.reduceAdd, Int.reduceSub, Int.reduceNeg, Int.reduceBEq, Int.reduceBNe, Nat.reduceBNe, Nat.reduceDiv, Nat.reduceMod, hk1, ← he]
    obtain rfl | rfl : dn = true ∨ dn = false := by cases dn <;> simp
    · simp only [go_sem, Nat.reduceAdd, Nat.reduceSub, Nat.reduceMul, Nat.reduceBEq, Nat.reduceLT, Nat.reduceLeDiff, Nat.reduceEqDiff, Int.reduceToNat, Int.reduceLE, Int.reduceLT, Int.reduceAdd, Int.reduceSub, Int.reduceNeg, Int.reduceBEq, Int.reduceBNe, Nat.reduceBNe, Nat.reduceDiv, Nat.reduceMod]
      by_cases h2 : e.iD = x.iD
      · have hs2 : putAt L x (i + 1) = (M, true) := by rw [hst]; simp [h2]
        simp only [go_sem, Nat.reduceAdd, Nat.reduceSub, Nat.reduceMul, Nat.reduceBEq, Nat.reduceLT, Nat.reduceLeDiff, Nat.reduceEqDiff, Int.reduceToNat, Int.reduceLE, Int.reduceLT, Int.reduceAdd, Int.reduceSub, Int.reduceNeg, Int.reduceBEq, Int.reduceBNe, Nat.reduceBNe, Nat.reduceDiv, Nat.reduceMod, beqT h2, bne]
        repeat (refine And.intro (by omega) ?_)
        refine ⟨_, Weak.to 2 ⟨?_, by simp only [go_sem, Nat.reduceAdd, Nat.reduceSub, Nat.reduceMul, Nat.reduceBEq, Nat.reduceLT, Nat.reduceLeDiff, Nat.reduceEqDiff, Int.reduceToNat, Int.reduceLE, Int.reduceLT, Int.reduceAdd, Int.reduceSub, Int.reduceNeg, Int.reduceBEq, Int.reduceBNe, Nat.reduceBNe, Nat.reduceDiv, Nat.reduceMod], ?_, ?_⟩, g, off, _, by rw [hs2]; exact hr, rfl⟩
        · simp only [go_sem, Nat.reduceAdd, Nat.reduceSub, Nat.reduceMul, Nat.reduceBEq, Nat.reduceLT, Nat.reduceLeDiff, Nat.reduceEqDiff, Int.reduceToNat, Int.reduceLE, Int.reduceLT, Int.reduceAdd, Int.reduceSub, Int.reduceNeg, Int.reduceBEq, Int.reduceBNe, Nat.reduceBNe, Nat.reduceDiv, Nat.reduceMod, hwr, hs2, List.length_append, List.length_singleton]
        · exact ⟨fun j _ => klsUp2 x, fun j hj => (hr).upto klsUp2 j (by have hj2 := hj; simp only [hs2] at hj2; simpa using hj2), trivial⟩
        · simp only [go_sem, Nat.reduceAdd, Nat.reduceSub, Nat.reduceMul, Nat.reduceBEq, Nat.reduceLT, Nat.reduceLeDiff, Nat.reduceEqDiff, Int.reduceToNat, Int.reduceLE, Int.reduceLT, Int.reduceAdd, Int.reduceSub, Int.reduceNeg, Int.reduceBEq, Int.reduceBNe, Nat.reduceBNe, Nat.reduceDiv, Nat.reduceMod, hs2, List.length_append, List.length_singleton]
      · have hs2 : putAt L x (i + 1) = (M ++ [e], true) := by rw [hst]; simp [h2]
        simp only [go_sem, Nat.reduceAdd, Nat.reduceSub, Nat.reduceMul, Nat.reduceBEq, Nat.reduceLT, Nat.reduceLeDiff, Nat.reduceEqDiff, Int.reduceToNat, Int.reduceLE, Int.reduceLT, Int.reduceAdd, Int.reduceSub, Int.reduceNeg, Int.reduceBEq, Int.reduceBNe, Nat.reduceBNe, Nat.reduceDiv, Nat.reduceMod, beqF h2, bne, hb4]
        repeat (refine And.intro (by omega) ?_)
        refine ⟨_, Weak.to 2 ⟨?_, by simp only [go_sem, Nat.reduceAdd, Nat.reduceSub, Nat.reduceMul, Nat.reduceBEq, Nat.reduceLT, Nat.reduceLeDiff, Nat.reduceEqDiff, Int.reduceToNat, Int.reduceLE, Int.reduceLT, Int.reduceAdd, Int.reduceSub, Int.reduceNeg, Int.reduceBEq, Int.reduceBNe, Nat.reduceBNe, Nat.reduceDiv, Nat.reduceMod], ?_, ?_⟩, (g+1), 0, _, by rw [hs2]; exact hre, rfl⟩
        · simp only [go_sem, Nat.reduceAdd, Nat.reduceSub, Nat.reduceMul, Nat.reduceBEq, Nat.reduceLT, Nat.reduceLeDiff, Nat.reduceEqDiff, Int.reduceToNat, Int.reduceLE, Int.reduceLT, Int.reduceAdd, Int.reduceSub, Int.reduceNeg, Int.reduceBEq, Int.reduceBNe, Nat.reduceBNe, Nat.reduceDiv, Nat.reduceMod, hwr, hs2, List.length_append, List.length_singleton]
        · exact ⟨fun j _ => klsUp2 x, fun j hj => (hre).upto klsUp2 j (by have hj2 := hj; simp only [hs2] at hj2; simpa using hj2), trivial⟩
        · simp only [go_sem, Nat.reduceAdd, Nat.reduceSub, Nat.reduceMul, Nat.reduceBEq, Nat.reduceLT, Nat.reduceLeDiff, Nat.reduceEqDiff, Int.reduceToNat, Int.reduceLE, Int.reduceLT, Int.reduceAdd, Int.reduceSub, Int.reduceNeg, Int.reduceBEq, Int.reduceBNe, Nat.reduceBNe, Nat.reduceDiv, Nat.reduceMod, hs2, List.length_append, List.length_singleton]
    · simp only [go_sem, Nat.reduceAdd, Nat.reduceSub, Nat.reduceMul, Nat.reduceBEq, Nat.reduceLT, Nat.reduceLeDiff, Nat.reduceEqDiff, Int.reduceToNat, Int.reduceLE, Int.reduceLT, Int.reduceAdd, Int.reduceSub, Int.reduceNeg, Int.reduceBEq, Int.reduceBNe, Nat.reduceBNe, Nat.reduceDiv, Nat.reduceMod]
      by_cases h1 : x.iD ≤ e.iD
      · simp only [go_sem, Nat.reduceAdd, Nat.reduceSub, Nat.reduceMul, Nat.reduceBEq, Nat.reduceLT, Nat.reduceLeDiff, Nat.reduceEqDiff, Int.reduceToNat, Int.reduceLE, Int.reduceLT, Int.reduceAdd, Int.reduceSub, Int.reduceNeg, Int.reduceBEq, Int.reduceBNe, Nat.reduceBNe, Nat.reduceDiv, Nat.reduceMod, decide_eq_true h1, hb4, h1]
        by_cases h2 : e.iD = x.iD
        · have hs2 : putAt L x (i + 1) = (M ++ [x], true) := by rw [hst]; simp [h2]
          simp only [go_sem, Nat.reduceAdd, Nat.reduceSub, Nat.reduceMul, Nat.reduceBEq, Nat.reduceLT, Nat.reduceLeDiff, Nat.reduceEqDiff, Int.reduceToNat, Int.reduceLE, Int.reduceLT, Int.reduceAdd, Int.reduceSub, Int.reduceNeg, Int.reduceBEq, Int.reduceBNe, Nat.reduceBNe, Nat.reduceDiv, Nat.reduceMod, beqT h2, bne, hb4]
          repeat (refine And.intro (by omega) ?_)
          refine ⟨_, Weak.to 2 ⟨?_, by simp only [go_sem, Nat.reduceAdd, Nat.reduceSub, Nat.reduceMul, Nat.reduceBEq, Nat.reduceLT, Nat.reduceLeDiff, Nat.reduceEqDiff, Int.reduceToNat, Int.reduceLE, Int.reduceLT, Int.reduceAdd, Int.reduceSub, Int.reduceNeg, Int.reduceBEq, Int.reduceBNe, Nat.reduceBNe, Nat.reduceDiv, Nat.reduceMod], ?_, ?_⟩, (g+1), 0, _, by rw [hs2]; exact hrx, rfl⟩
          · simp only [go_sem, Nat.reduceAdd, Nat.reduceSub, Nat.reduceMul, Nat.reduceBEq, Nat.reduceLT, Nat.reduceLeDiff, Nat.reduceEqDiff, Int.reduceToNat, Int.reduceLE, Int.reduceLT, Int.reduceAdd, Int.reduceSub, Int.reduceNeg, Int.reduceBEq, Int.reduceBNe, Nat.reduceBNe, Nat.reduceDiv, Nat.reduceMod, hwr, hs2, List.length_append, List.length_singleton]
          · exact ⟨fun j _ => klsUp2 x, fun j hj => (hrx).upto klsUp2 j (by have hj2 := hj; simp only [hs2] at hj2; simpa using hj2), trivial⟩
          · simp only [go_sem, Nat.reduceAdd, Nat.reduceSub, Nat.reduceMul, Nat.reduceBEq, Nat.reduceLT, Nat.reduceLeDiff, Nat.reduceEqDiff, Int.reduceToNat, Int.reduceLE, Int.reduceLT, Int.reduceAdd, Int.reduceSub, Int.reduceNeg, Int.reduceBEq, Int.reduceBNe, Nat.reduceBNe, Nat.reduceDiv, Nat.reduceMod, hs2, List.length_append, List.length_singleton]
        · have hs2 : putAt L x (i + 1) = (M ++ [x] ++ [e], true) := by rw [hst]; simp [h2, h1]
          simp only [go_sem, Nat.reduceAdd, Nat.reduceSub, Nat.reduceMul, Nat.reduceBEq, Nat.reduceLT, Nat.reduceLeDiff, Nat.reduceEqDiff, Int.reduceToNat, Int.reduceLE, Int.reduceLT, Int.reduceAdd, Int.reduceSub, Int.reduceNeg, Int.reduceBEq, Int.reduceBNe, Nat.reduceBNe, Nat.reduceDiv, Nat.reduceMod, beqF h2, bne, hb4, hb5]
          rw [hlx] at hrxe
          repeat (refine And.intro (by omega) ?_)
          refine ⟨_, Weak.to 2 ⟨?_, by simp only [go_sem, Nat.reduceAdd, Nat.reduceSub, Nat.reduceMul, Nat.reduceBEq, Nat.reduceLT, Nat.reduceLeDiff, Nat.reduceEqDiff, Int.reduceToNat, Int.reduceLE, Int.reduceLT, Int.reduceAdd, Int.reduceSub, Int.reduceNeg, Int.reduceBEq, Int.reduceBNe, Nat.reduceBNe, Nat.reduceDiv, Nat.reduceMod], ?_, ?_⟩, (g+1+1), 0, _, by rw [hs2]; exact hrxe, rfl⟩
          · simp only [go_sem, Nat.reduceAdd, Nat.reduceSub, Nat.reduceMul, Nat.reduceBEq, Nat.reduceLT, Nat.reduceLeDiff, Nat.reduceEqDiff, Int.reduceToNat, Int.reduceLE, Int.reduceLT, Int.reduceAdd, Int.reduceSub, Int.reduceNeg, Int.reduceBEq, Int.reduceBNe, Nat.reduceBNe, Nat.reduceDiv, Nat.reduceMod, hwr, hs2, List.length_append, List.length_singleton]
          · exact ⟨fun j _ => klsUp2 x, fun j hj => (hrxe).upto klsUp2 j (by have hj2 := hj; simp only [hs2] at hj2; simpa using hj2), trivial⟩
          · simp only [go_sem, Nat.reduceAdd, Nat.reduceSub, Nat.reduceMul, Nat.reduceBEq, Nat.reduceLT, Nat.reduceLeDiff, Nat.reduceEqDiff, Int.reduceToNat, Int.reduceLE, Int.reduceLT, Int.reduceAdd, Int.reduceSub, Int.reduceNeg, Int.reduceBEq, Int.reduceBNe, Nat.reduceBNe, Nat.reduceDiv, Nat.reduceMod, hs2, List.length_append, List.length_singleton]
      · simp only [go_sem, Nat.reduceAdd, Nat.reduceSub, Nat.reduceMul, Nat.reduceBEq, Nat.reduceLT, Nat.reduceLeDiff, Nat.reduceEqDiff, Int.reduceToNat, Int.reduceLE, Int.reduceLT, Int.reduceAdd, Int.reduceSub, Int.reduceNeg, Int.reduceBEq, Int.reduceBNe, Nat.reduceBNe, Nat.reduceDiv, Nat.reduceMod, decide_eq_false h1, hb4, h1]
        by_cases h2 : e.iD = x.iD
        · exact absurd (by omega) h1
        · have hs2 : putAt L x (i + 1) = (M ++ [e], false) := by rw [hst]; simp [h2, h1]
          simp only [go_sem, Nat.reduceAdd, Nat.reduceSub, Nat.reduceMul, Nat.reduceBEq, Nat.reduceLT, Nat.reduceLeDiff, Nat.reduceEqDiff, Int.reduceToNat, Int.reduceLE, Int.reduceLT, Int.reduceAdd, Int.reduceSub, Int.reduceNeg, Int.reduceBEq, Int.reduceBNe, Nat.reduceBNe, Nat.reduceDiv, Nat.reduceMod, beqF h2, bne, hb4]
          repeat (refine And.intro (by omega) ?_)
          refine ⟨_, Weak.to 2 ⟨?_, by simp only [go_sem, Nat.reduceAdd, Nat.reduceSub, Nat.reduceMul, Nat.reduceBEq, Nat.reduceLT, Nat.reduceLeDiff, Nat.reduceEqDiff, Int.reduceToNat, Int.reduceLE, Int.reduceLT, Int.reduceAdd, Int.reduceSub, Int.reduceNeg, Int.reduceBEq, Int.reduceBNe, Nat.reduceBNe, Nat.reduceDiv, Nat.reduceMod], ?_, ?_⟩, (g+1), 0, _, by rw [hs2]; exact hre, rfl⟩
          · simp only [go_sem, Nat.reduceAdd, Nat.reduceSub, Nat.reduceMul, Nat.reduceBEq, Nat.reduceLT, Nat.reduceLeDiff, Nat.reduceEqDiff, Int.reduceToNat, Int.reduceLE, Int.reduceLT, Int.reduceAdd, Int.reduceSub, Int.reduceNeg, Int.reduceBEq, Int.reduceBNe, Nat.reduceBNe, Nat.reduceDiv, Nat.reduceMod, hwr, hs2, List.length_append, List.length_singleton]
          · exact ⟨fun j _ => klsUp2 x, fun j hj => (hre).upto klsUp2 j (by have hj2 := hj; simp only [hs2] at hj2; simpa using hj2), trivial⟩
          · simp only [go_sem, Nat.reduceAdd, Nat.reduceSub, Nat.reduceMul, Nat.reduceBEq, Nat.reduceLT, Nat.reduceLeDiff, Nat.reduceEqDiff, Int.reduceToNat, Int.reduceLE, Int.reduceLT, Int.reduceAdd, Int.reduceSub, Int.reduceNeg, Int.reduceBEq, Int.reduceBNe, Nat.reduceBNe, Nat.reduceDiv, Nat.reduceMod, hs2, List.length_append, List.length_singleton]
  · have h1 : i = L.length := by omega
    subst h1
    have hb4 : (putAt L x L.length).1.length ≤ 4294967295 := by omega
    have hrx : RowsAt Kls.cells ((putAt L x L.length).1 ++ [x]) 0 (appRow (putAt L x L.length).1.length off row fun _ => x.cells) := hr.app x rfl
    refine kont_of_hx cx_ok hb 200 ?_
    simp only [go_sem, Nat.reduceAdd, Nat.reduceSub, Nat.reduceMul, Nat.reduceBEq, Nat.reduceLT, Nat.reduceLeDiff, Nat.reduceEqDiff, Int.reduceToNat, Int.reduceLE, Int.reduceLT, Int.reduceAdd, Int.reduceSub, Int.reduceNeg, Int.reduceBEq, Int.reduceBNe, Nat.reduceBNe, Nat.reduceDiv, Nat.reduceMod]
    by_cases h2 : (putAt L x L.length).2 = true
    · have e : putOut L x = (putAt L x L.length).1 := by rw [putOut, if_pos h2]
      simp only [go_sem, Nat.reduceAdd, Nat.reduceSub, Nat.reduceMul, Nat.reduceBEq, Nat.reduceLT, Nat.reduceLeDiff, Nat.reduceEqDiff, Int.reduceToNat, Int.reduceLE, Int.reduceLT, Int.reduceAdd, Int.reduceSub, Int.reduceNeg, Int.reduceBEq, Int.reduceBNe, Nat.reduceBNe, Nat.reduceDiv, Nat.reduceMod, h2]
      rw [e]
      exact ⟨hr.among1, g, off, _, rfl, rfl, hr.ren1⟩
    · have e : putOut L x = (putAt L x L.length).1 ++ [x] := by rw [putOut, if_neg h2]
      simp only [Bool.not_eq_true] at h2
      simp only [go_sem, Nat.reduceAdd, Nat.reduceSub, Nat.reduceMul, Nat.reduceBEq, Nat.reduceLT, Nat.reduceLeDiff, Nat.reduceEqDiff, Int.reduceToNat, Int.reduceLE, Int.reduceLT, Int.reduceAdd, Int.reduceSub, Int.reduceNeg, Int.reduceBEq, Int.reduceBNe, Nat.reduceBNe, Nat.reduceDiv, Nat.reduceMod, h2, hb4]
      rw [e]
      refine ⟨fun j hj => (by have h3 := hrx.among1 j (by simpa using hj); simpa only [go_sem, Nat.reduceAdd, Nat.reduceSub, Nat.reduceMul, Nat.reduceBEq, Nat.reduceLT, Nat.reduceLeDiff, Nat.reduceEqDiff, Int.reduceToNat, Int.reduceLE, Int.reduceLT, Int.reduceAdd, Int.reduceSub, Int.reduceNeg, Int.reduceBEq, Int.reduceBNe, Nat.reduceBNe, Nat.reduceDiv, Nat.reduceMod] using h3), g + 1, 0, _, ?_, ?_, hrx.ren1⟩
      · simp
      · rw [Nat.zero_add, List.length_append, List.length_singleton]; simp only [go_sem, Nat.reduceAdd, Nat.reduceSub, Nat.reduceMul, Nat.reduceBEq, Nat.reduceLT, Nat.reduceLeDiff, Nat.reduceEqDiff, Int.reduceToNat, Int.reduceLE, Int.reduceLT, Int.reduceAdd, Int.reduceSub, Int.reduceNeg, Int.reduceBEq, Int.reduceBNe, Nat.reduceBNe, Nat.reduceDiv, Nat.reduceMod]
end Go.Fg.X
