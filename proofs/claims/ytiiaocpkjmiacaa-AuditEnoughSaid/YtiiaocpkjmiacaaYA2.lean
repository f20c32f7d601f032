/- Walks of the functions that the statement reaches. No conditions: contracts and laws. -/
import Derived.Test.YtiiaocpkjmiacaaYA1
namespace Go.Fg.X
open Go.Proofs Go.Fg
set_option maxRecDepth 100000
set_option maxHeartbeats 1000000
set_option linter.unusedSimpArgs false
set_option linter.unusedVariables false
def Ev.pk (e : Ev) : Pk := ⟨e.id, e.len, e.h0, e.h1, e.h2, e.h3⟩
def pkEq (a b : Pk) : Bool := a.iD == b.iD && (a.len == b.len && (a.head0 == b.head0 && (a.head1 == b.head1 && (a.head2 == b.head2 && a.head3 == b.head3))))
theorem pkEq_iff (a b : Pk) : pkEq a b = true ↔ a = b := by
  obtain ⟨a1, a2, a3, a4, a5, a6⟩ := a
  obtain ⟨b1, b2, b3, b4, b5, b6⟩ := b
  simp [pkEq]
/-- An auditor's cells. -/
@[go_sem] def aCells (x : Cf) (lm : Nat) (l : Ev) (done : Int) (q : D) : List D := [dint x.t, dint x.lmax, .mref lm 0, dint l.op, dbool l.inn, dbool l.real, du64 l.at_, du64 l.done, dint l.cls, du64 l.id, dint l.len, .raw (.int .u16 l.h0), .raw (.int .u16 l.h1), .raw (.int .u16 l.h2), .raw (.int .u16 l.h3), du64 done, q]
section
variable (h : List Ob) (lb la lm : Nat) (x : Cf) (l : Ev) (done : Int) (q : D) (e : Ev)
  (hbx : (h.map Ob.ro)[lb]? = some ⟨.rone, 0, 1, 1, fun _ => [.ptr la 0 0 0]⟩) (ha : (h.map Ob.ro)[la]? = some ⟨.rone, 0, 17, 1, fun _ => aCells x lm l done q⟩)
include hbx ha
theorem q1_ok : RFn0 Try.prog 73 h [.agg e.cells, .ptr lb 0 0 0] (fun d => d = dbool (decide (e.op < 0 ∨ e.op < l.op ∨ e.cls < 1))) := by
  refine RFn0_hx cx_ok 200 Try.func73 rfl Try.ntmps73 Try.results73 rfl fun base w pl F hF hFl hb => ?_
  rw [← hF] at hbx ha
  have hbx_l := hlt hbx
  have ha_l := hlt ha
  simp only [go_sem, Nat.reduceAdd, Nat.reduceSub, Nat.reduceMul, Nat.reduceBEq, Nat.reduceLT, Nat.reduceLeDiff, Nat.reduceEqDiff, Int.reduceToNat, Int.reduceLE, Int.reduceLT, Int.reduceAdd, Int.reduceSub, Int.reduceNeg, Int.reduceBEq, Int.reduceBNe, Nat.reduceBNe, Nat.reduceDiv, Nat.reduceMod, hgetA, hgetL, hgetLk, hsetA, hsetL, hsetLk, List.length_append, List.length_set, List.append_assoc, List.set_set, hbx, hbx_l, ha, ha_l]
  refine kont_hax cx_ok hb 200 mixed [(0, true), (1, true), (2, true), (3, true), (4, true), (5, true), (6, true), (7, true), (8, true), (9, true), (10, true), (11, true), (12, true), (13, true), (14, true), (15, true), (16, true), (17, true), (18, true)] (by kernel_rfl) (by kernel_rfl) ?_
  simp only [go_sem, Nat.reduceAdd, Nat.reduceSub, Nat.reduceMul, Nat.reduceBEq, Nat.reduceLT, Nat.reduceLeDiff, Nat.reduceEqDiff, Int.reduceToNat, Int.reduceLE, Int.reduceLT, Int.reduceAdd, Int.reduceSub, Int.reduceNeg, Int.reduceBEq, Int.reduceBNe, Nat.reduceBNe, Nat.reduceDiv, Nat.reduceMod, hgetA, hgetL, hgetLk, hsetA, hsetL, hsetLk, List.length_append, List.length_set, List.append_assoc, List.set_set, hbx, ha, hbx_l, ha_l]
  repeat' (first | ((first | refine hite_dec (fun h => ?_) (fun h => ?_) | refine hite_beq (fun h => ?_) (fun h => ?_) | refine hite_bne (fun h => ?_) (fun h => ?_) | refine hite_intro (fun h => ?_) (fun h => ?_) | refine hite_decA (fun h => ?_) (fun h => ?_) | refine hite_beqA (fun h => ?_) (fun h => ?_) | refine hite_bneA (fun h => ?_) (fun h => ?_) | refine hite_intro' (fun h => ?_) (fun h => ?_)) <;> (try simp only [go_sem, Nat.reduceAdd, Nat.reduceSub, Nat.reduceMul, Nat.reduceBEq, Nat.reduceLT, Nat.reduceLeDiff, Nat.reduceEqDiff, Int.reduceToNat, Int.reduceLE, Int.reduceLT, Int.reduceAdd, Int.reduceSub, Int.reduceNeg, Int.reduceBEq, Int.reduceBNe, Nat.reduceBNe, Nat.reduceDiv, Nat.reduceMod, hgetA, hgetL, hgetLk, hsetA, hsetL, hsetLk, List.length_append, List.length_set, List.append_assoc, List.set_set, hbx, ha, hbx_l, ha_l])) | (refine And.intro (by omega) ?_; try simp only [go_sem, Nat.reduceAdd, Nat.reduceSub, Nat.reduceMul, Nat.reduceBEq, Nat.reduceLT, Nat.reduceLeDiff, Nat.reduceEqDiff, Int.reduceToNat, Int.reduceLE, Int.reduceLT, Int.reduceAdd, Int.reduceSub, Int.reduceNeg, Int.reduceBEq, Int.reduceBNe, Nat.reduceBNe, Nat.reduceDiv, Nat.reduceMod, hgetA, hgetL, hgetLk, hsetA, hsetL, hsetLk, List.length_append, List.length_set, List.append_assoc, List.set_set, hbx, ha, hbx_l, ha_l]))
  all_goals refine ⟨_, rfl, ?_⟩
  all_goals (congr 2; rw [Bool.eq_iff_iff]; simp only [decide_eq_true_eq, Bool.false_eq_true, false_iff, true_iff]; omega)
theorem q2_ok : RFn0 Try.prog 74 h [.agg e.cells, .ptr lb 0 0 0] (fun d => d = dbool (decide (e.at_ < l.at_ ∨ 4611686018427387904 < e.at_))) := by
  refine RFn0_hx cx_ok 200 Try.func74 rfl Try.ntmps74 Try.results74 rfl fun base w pl F hF hFl hb => ?_
  rw [← hF] at hbx ha
  have hbx_l := hlt hbx
  have ha_l := hlt ha
  simp only [go_sem, Nat.reduceAdd, Nat.reduceSub, Nat.reduceMul, Nat.reduceBEq, Nat.reduceLT, Nat.reduceLeDiff, Nat.reduceEqDiff, Int.reduceToNat, Int.reduceLE, Int.reduceLT, Int.reduceAdd, Int.reduceSub, Int.reduceNeg, Int.reduceBEq, Int.reduceBNe, Nat.reduceBNe, Nat.reduceDiv, Nat.reduceMod, hgetA, hgetL, hgetLk, hsetA, hsetL, hsetLk, List.length_append, List.length_set, List.append_assoc, List.set_set, hbx, hbx_l, ha, ha_l]
  refine kont_hax cx_ok hb 200 mixed [(0, true), (1, true), (2, true), (3, true), (4, true), (5, true), (6, true), (7, true), (8, true), (9, true), (10, true), (11, true), (12, true), (13, true)] (by kernel_rfl) (by kernel_rfl) ?_
  simp only [go_sem, Nat.reduceAdd, Nat.reduceSub, Nat.reduceMul, Nat.reduceBEq, Nat.reduceLT, Nat.reduceLeDiff, Nat.reduceEqDiff, Int.reduceToNat, Int.reduceLE, Int.reduceLT, Int.reduceAdd, Int.reduceSub, Int.reduceNeg, Int.reduceBEq, Int.reduceBNe, Nat.reduceBNe, Nat.reduceDiv, Nat.reduceMod, hgetA, hgetL, hgetLk, hsetA, hsetL, hsetLk, List.length_append, List.length_set, List.append_assoc, List.set_set, hbx, ha, hbx_l, ha_l]
  repeat' (first | ((first | refine hite_dec (fun h => ?_) (fun h => ?_) | refine hite_beq (fun h => ?_) (fun h => ?_) | refine hite_bne (fun h => ?_) (fun h => ?_) | refine hite_intro (fun h => ?_) (fun h => ?_) | refine hite_decA (fun h => ?_) (fun h => ?_) | refine hite_beqA (fun h => ?_) (fun h => ?_) | refine hite_bneA (fun h => ?_) (fun h => ?_) | refine hite_intro' (fun h => ?_) (fun h => ?_)) <;> (try simp only [go_sem, Nat.reduceAdd, Nat.reduceSub, Nat.reduceMul, Nat.reduceBEq, Nat.reduceLT, Nat.reduceLeDiff, Nat.reduceEqDiff, Int.reduceToNat, Int.reduceLE, Int.reduceLT, Int.reduceAdd, Int.reduceSub, Int.reduceNeg, Int.reduceBEq, Int.reduceBNe, Nat.reduceBNe, Nat.reduceDiv, Nat.reduceMod, hgetA, hgetL, hgetLk, hsetA, hsetL, hsetLk, List.length_append, List.length_set, List.append_assoc, List.set_set, hbx, ha, hbx_l, ha_l])) | (refine And.intro (by omega) ?_; try simp only [go_sem, Nat.reduceAdd, Nat.reduceSub, Nat.reduceMul, Nat.reduceBEq, Nat.reduceLT, Nat.reduceLeDiff, Nat.reduceEqDiff, Int.reduceToNat, Int.reduceLE, Int.reduceLT, Int.reduceAdd, Int.reduceSub, Int.reduceNeg, Int.reduceBEq, Int.reduceBNe, Nat.reduceBNe, Nat.reduceDiv, Nat.reduceMod, hgetA, hgetL, hgetLk, hsetA, hsetL, hsetLk, List.length_append, List.length_set, List.append_assoc, List.set_set, hbx, ha, hbx_l, ha_l]))
  all_goals refine ⟨_, rfl, ?_⟩
  all_goals (congr 2; rw [Bool.eq_iff_iff]; simp only [decide_eq_true_eq, Bool.false_eq_true, false_iff, true_iff]; omega)
theorem q3_ok : RFn0 Try.prog 75 h [.agg e.cells, .ptr lb 0 0 0] (fun d => d = dbool (pkMay e.pk x.lmax != 0)) := by
  refine RFn0_hx cx_ok 200 Try.func75 rfl Try.ntmps75 Try.results75 rfl fun base w pl F hF hFl hb => ?_
  rw [← hF] at hbx ha
  have hbx_l := hlt hbx
  have ha_l := hlt ha
  simp only [go_sem, Nat.reduceAdd, Nat.reduceSub, Nat.reduceMul, Nat.reduceBEq, Nat.reduceLT, Nat.reduceLeDiff, Nat.reduceEqDiff, Int.reduceToNat, Int.reduceLE, Int.reduceLT, Int.reduceAdd, Int.reduceSub, Int.reduceNeg, Int.reduceBEq, Int.reduceBNe, Nat.reduceBNe, Nat.reduceDiv, Nat.reduceMod, hgetA, hgetL, hgetLk, hsetA, hsetL, hsetLk, List.length_append, List.length_set, List.append_assoc, List.set_set, hbx, hbx_l, ha, ha_l]
  refine kont_hax cx_ok hb 200 mixed [(0, true), (1, true), (2, true), (3, true), (4, true), (5, true), (6, true), (7, false), (8, true), (9, true)] (by kernel_rfl) (by kernel_rfl) ?_
  simp only [go_sem, Nat.reduceAdd, Nat.reduceSub, Nat.reduceMul, Nat.reduceBEq, Nat.reduceLT, Nat.reduceLeDiff, Nat.reduceEqDiff, Int.reduceToNat, Int.reduceLE, Int.reduceLT, Int.reduceAdd, Int.reduceSub, Int.reduceNeg, Int.reduceBEq, Int.reduceBNe, Nat.reduceBNe, Nat.reduceDiv, Nat.reduceMod, hgetA, hgetL, hgetLk, hsetA, hsetL, hsetLk, List.length_append, List.length_set, List.append_assoc, List.set_set, hbx, ha, hbx_l, ha_l]
  refine AX_call hb fn76 rfl ?_ (may_ok e.pk x.lmax) (Ret.flat rfl) rfl fun d h hR => ?_
  · simp only [go_sem, Nat.reduceAdd, Nat.reduceSub, Nat.reduceMul, Nat.reduceBEq, Nat.reduceLT, Nat.reduceLeDiff, Nat.reduceEqDiff, Int.reduceToNat, Int.reduceLE, Int.reduceLT, Int.reduceAdd, Int.reduceSub, Int.reduceNeg, Int.reduceBEq, Int.reduceBNe, Nat.reduceBNe, Nat.reduceDiv, Nat.reduceMod, hgetA, hgetL, hgetLk, hsetA, hsetL, hsetLk, List.length_append, List.length_set, List.append_assoc, List.set_set, hbx, ha, hbx_l, ha_l, Ev.pk]
  obtain ⟨rfl, rfl⟩ := hR
  refine AX_of_hax cx_ok hb ?_
  simp only [go_sem, Nat.reduceAdd, Nat.reduceSub, Nat.reduceMul, Nat.reduceBEq, Nat.reduceLT, Nat.reduceLeDiff, Nat.reduceEqDiff, Int.reduceToNat, Int.reduceLE, Int.reduceLT, Int.reduceAdd, Int.reduceSub, Int.reduceNeg, Int.reduceBEq, Int.reduceBNe, Nat.reduceBNe, Nat.reduceDiv, Nat.reduceMod, hgetA, hgetL, hgetLk, hsetA, hsetL, hsetLk, List.length_append, List.length_set, List.append_assoc, List.set_set, hbx, ha, hbx_l, ha_l, Ev.pk]
  all_goals exact ⟨_, rfl⟩
omit hbx ha in
theorem q4_ok : RFn0 Try.prog 77 h [.agg e.cells] (fun d => d = dbool (e.inn && (e.done != 0 || e.real))) := by
  refine RFn0_hx cx_ok 200 Try.func77 rfl Try.ntmps77 Try.results77 rfl fun base w pl F hF hFl hb => ?_
  simp only [go_sem, Nat.reduceAdd, Nat.reduceSub, Nat.reduceMul, Nat.reduceBEq, Nat.reduceLT, Nat.reduceLeDiff, Nat.reduceEqDiff, Int.reduceToNat, Int.reduceLE, Int.reduceLT, Int.reduceAdd, Int.reduceSub, Int.reduceNeg, Int.reduceBEq, Int.reduceBNe, Nat.reduceBNe, Nat.reduceDiv, Nat.reduceMod, hgetA, hgetL, hgetLk, hsetA, hsetL, hsetLk, List.length_append, List.length_set, List.append_assoc, List.set_set]
  repeat' (first | ((first | refine hite_dec (fun h => ?_) (fun h => ?_) | refine hite_beq (fun h => ?_) (fun h => ?_) | refine hite_bne (fun h => ?_) (fun h => ?_) | refine hite_intro (fun h => ?_) (fun h => ?_) | refine hite_decA (fun h => ?_) (fun h => ?_) | refine hite_beqA (fun h => ?_) (fun h => ?_) | refine hite_bneA (fun h => ?_) (fun h => ?_) | refine hite_intro' (fun h => ?_) (fun h => ?_)) <;> (try simp only [go_sem, Nat.reduceAdd, Nat.reduceSub, Nat.reduceMul, Nat.reduceBEq, Nat.reduceLT, Nat.reduceLeDiff, Nat.reduceEqDiff, Int.reduceToNat, Int.reduceLE, Int.reduceLT, Int.reduceAdd, Int.reduceSub, Int.reduceNeg, Int.reduceBEq, Int.reduceBNe, Nat.reduceBNe, Nat.reduceDiv, Nat.reduceMod, hgetA, hgetL, hgetLk, hsetA, hsetL, hsetLk, List.length_append, List.length_set, List.append_assoc, List.set_set])) | (refine And.intro (by omega) ?_; try simp only [go_sem, Nat.reduceAdd, Nat.reduceSub, Nat.reduceMul, Nat.reduceBEq, Nat.reduceLT, Nat.reduceLeDiff, Nat.reduceEqDiff, Int.reduceToNat, Int.reduceLE, Int.reduceLT, Int.reduceAdd, Int.reduceSub, Int.reduceNeg, Int.reduceBEq, Int.reduceBNe, Nat.reduceBNe, Nat.reduceDiv, Nat.reduceMod, hgetA, hgetL, hgetLk, hsetA, hsetL, hsetLk, List.length_append, List.length_set, List.append_assoc, List.set_set]))
  all_goals refine ⟨_, rfl, ?_⟩
  all_goals simp_all
theorem q7_ok : RFn0 Try.prog 80 h [.agg e.cells, .ptr lb 0 0 0] (fun d => d = dbool (decide (e.at_ < done))) := by
  refine RFn0_hx cx_ok 200 Try.func80 rfl Try.ntmps80 Try.results80 rfl fun base w pl F hF hFl hb => ?_
  rw [← hF] at hbx ha
  have hbx_l := hlt hbx
  have ha_l := hlt ha
  simp only [go_sem, Nat.reduceAdd, Nat.reduceSub, Nat.reduceMul, Nat.reduceBEq, Nat.reduceLT, Nat.reduceLeDiff, Nat.reduceEqDiff, Int.reduceToNat, Int.reduceLE, Int.reduceLT, Int.reduceAdd, Int.reduceSub, Int.reduceNeg, Int.reduceBEq, Int.reduceBNe, Nat.reduceBNe, Nat.reduceDiv, Nat.reduceMod, hgetA, hgetL, hgetLk, hsetA, hsetL, hsetLk, List.length_append, List.length_set, List.append_assoc, List.set_set, hbx, hbx_l, ha, ha_l]
  refine kont_hax cx_ok hb 200 mixed [(0, true), (1, true), (2, true), (3, true), (4, true), (5, true), (6, true), (7, true)] (by kernel_rfl) (by kernel_rfl) ?_
  simp only [go_sem, Nat.reduceAdd, Nat.reduceSub, Nat.reduceMul, Nat.reduceBEq, Nat.reduceLT, Nat.reduceLeDiff, Nat.reduceEqDiff, Int.reduceToNat, Int.reduceLE, Int.reduceLT, Int.reduceAdd, Int.reduceSub, Int.reduceNeg, Int.reduceBEq, Int.reduceBNe, Nat.reduceBNe, Nat.reduceDiv, Nat.reduceMod, hgetA, hgetL, hgetLk, hsetA, hsetL, hsetLk, List.length_append, List.length_set, List.append_assoc, List.set_set, hbx, ha, hbx_l, ha_l]
  all_goals exact ⟨_, rfl⟩
omit hbx in
theorem q8_ok : RFn0 Try.prog 81 h [.ptr la 0 0 0, .agg e.cells] (fun d => d = dbool (e.done != IntKind.u64.wrap (e.at_ + tkV e.pk x.t))) := by
  refine RFn0_hx cx_ok 200 Try.func81 rfl Try.ntmps81 Try.results81 rfl fun base w pl F hF hFl hb => ?_
  rw [← hF] at ha
  have ha_l := hlt ha
  simp only [go_sem, Nat.reduceAdd, Nat.reduceSub, Nat.reduceMul, Nat.reduceBEq, Nat.reduceLT, Nat.reduceLeDiff, Nat.reduceEqDiff, Int.reduceToNat, Int.reduceLE, Int.reduceLT, Int.reduceAdd, Int.reduceSub, Int.reduceNeg, Int.reduceBEq, Int.reduceBNe, Nat.reduceBNe, Nat.reduceDiv, Nat.reduceMod, hgetA, hgetL, hgetLk, hsetA, hsetL, hsetLk, List.length_append, List.length_set, List.append_assoc, List.set_set, ha, ha_l]
  refine kont_hax cx_ok hb 200 mixed [(0, true), (1, true), (2, true), (3, true), (4, true), (5, true), (6, true), (7, false), (8, true), (9, true), (10, true), (11, true), (12, true)] (by kernel_rfl) (by kernel_rfl) ?_
  simp only [go_sem, Nat.reduceAdd, Nat.reduceSub, Nat.reduceMul, Nat.reduceBEq, Nat.reduceLT, Nat.reduceLeDiff, Nat.reduceEqDiff, Int.reduceToNat, Int.reduceLE, Int.reduceLT, Int.reduceAdd, Int.reduceSub, Int.reduceNeg, Int.reduceBEq, Int.reduceBNe, Nat.reduceBNe, Nat.reduceDiv, Nat.reduceMod, hgetA, hgetL, hgetLk, hsetA, hsetL, hsetLk, List.length_append, List.length_set, List.append_assoc, List.set_set, ha, ha_l]
  refine AX_call hb fn109 rfl ?_ (ticks_ok e.pk x.t) (Ret.flat rfl) rfl fun d h hR => ?_
  · simp only [go_sem, Nat.reduceAdd, Nat.reduceSub, Nat.reduceMul, Nat.reduceBEq, Nat.reduceLT, Nat.reduceLeDiff, Nat.reduceEqDiff, Int.reduceToNat, Int.reduceLE, Int.reduceLT, Int.reduceAdd, Int.reduceSub, Int.reduceNeg, Int.reduceBEq, Int.reduceBNe, Nat.reduceBNe, Nat.reduceDiv, Nat.reduceMod, hgetA, hgetL, hgetLk, hsetA, hsetL, hsetLk, List.length_append, List.length_set, List.append_assoc, List.set_set, ha, ha_l, Ev.pk]
  obtain ⟨rfl, rfl⟩ := hR
  refine AX_of_hax cx_ok hb ?_
  simp only [go_sem, Nat.reduceAdd, Nat.reduceSub, Nat.reduceMul, Nat.reduceBEq, Nat.reduceLT, Nat.reduceLeDiff, Nat.reduceEqDiff, Int.reduceToNat, Int.reduceLE, Int.reduceLT, Int.reduceAdd, Int.reduceSub, Int.reduceNeg, Int.reduceBEq, Int.reduceBNe, Nat.reduceBNe, Nat.reduceDiv, Nat.reduceMod, hgetA, hgetL, hgetLk, hsetA, hsetL, hsetLk, List.length_append, List.length_set, List.append_assoc, List.set_set, ha, ha_l, Ev.pk]
  all_goals first | exact ⟨_, rfl, rfl⟩ | exact ⟨_, rfl⟩ | rfl
/-- The packets that wait in a class's slice. -/
def SlAt (f : Ob → Ob) (h : List Ob) (d : D) (p : List Pk) : Prop := (d = .nil ∧ p = []) ∨ ∃ lo g off row, d = .ref lo g off p.length ∧ h[lo]? = some (f ⟨.arr, g, 6, off + p.length, row⟩) ∧ ∀ i, i < p.length → row (off + i) = (p.getD i default).cells
variable {es : List Ent} {c : Nat} {p : List Pk} (hm : (h.map Ob.ro)[lm]? = some (mapOb .i64 c es).ro)
include hm
theorem q5_ok (hp : SlAt Ob.ro (h.map Ob.ro) ((alook es e.cls).getD .nil) p) : RFn0 Try.prog 78 h [.agg e.cells, .ptr lb 0 0 0] (fun d => d = dbool (p.length == 0)) := by
  refine RFn0_hx cx_ok 200 Try.func78 rfl Try.ntmps78 Try.results78 rfl fun base w pl F hF hFl hb => ?_
  rw [← hF] at hbx ha hm
  have hbx_l := hlt hbx
  have ha_l := hlt ha
  have hm_l := hlt hm
  simp only [go_sem, Nat.reduceAdd, Nat.reduceSub, Nat.reduceMul, Nat.reduceBEq, Nat.reduceLT, Nat.reduceLeDiff, Nat.reduceEqDiff, Int.reduceToNat, Int.reduceLE, Int.reduceLT, Int.reduceAdd, Int.reduceSub, Int.reduceNeg, Int.reduceBEq, Int.reduceBNe, Nat.reduceBNe, Nat.reduceDiv, Nat.reduceMod, hgetA, hgetL, hgetLk, hsetA, hsetL, hsetLk, List.length_append, List.length_set, List.append_assoc, List.set_set, hbx, hbx_l, ha, ha_l, hm, hm_l]
  cases hk : alook es e.cls with
  | none =>
    rw [hk] at hp
    rcases hp with ⟨h1, rfl⟩ | ⟨lo, g, off, row, h1, h2, h3⟩
    · refine kont_hax cx_ok hb 200 mixed [(0, true), (1, true), (2, true), (3, true), (4, true), (5, true), (6, true), (7, true), (8, true), (9, true)] (by kernel_rfl) (by kernel_rfl) ?_
      simp only [go_sem, Nat.reduceAdd, Nat.reduceSub, Nat.reduceMul, Nat.reduceBEq, Nat.reduceLT, Nat.reduceLeDiff, Nat.reduceEqDiff, Int.reduceToNat, Int.reduceLE, Int.reduceLT, Int.reduceAdd, Int.reduceSub, Int.reduceNeg, Int.reduceBEq, Int.reduceBNe, Nat.reduceBNe, Nat.reduceDiv, Nat.reduceMod, hgetA, hgetL, hgetLk, hsetA, hsetL, hsetLk, List.length_append, List.length_set, List.append_assoc, List.set_set, hbx, ha, hbx_l, ha_l, hm, hm_l, hk]
      all_goals first | exact ⟨_, rfl, rfl⟩ | exact ⟨_, rfl⟩ | rfl
    · cases h1
  | some d =>
    rw [hk] at hp
    rcases hp with ⟨h1, rfl⟩ | ⟨lo, g, off, row, h1, h2, h3⟩
    · simp only [Option.getD_some] at h1
      subst h1
      refine kont_hax cx_ok hb 200 mixed [(0, true), (1, true), (2, true), (3, true), (4, true), (5, true), (6, true), (7, true), (8, true), (9, true)] (by kernel_rfl) (by kernel_rfl) ?_
      simp only [go_sem, Nat.reduceAdd, Nat.reduceSub, Nat.reduceMul, Nat.reduceBEq, Nat.reduceLT, Nat.reduceLeDiff, Nat.reduceEqDiff, Int.reduceToNat, Int.reduceLE, Int.reduceLT, Int.reduceAdd, Int.reduceSub, Int.reduceNeg, Int.reduceBEq, Int.reduceBNe, Nat.reduceBNe, Nat.reduceDiv, Nat.reduceMod, hgetA, hgetL, hgetLk, hsetA, hsetL, hsetLk, List.length_append, List.length_set, List.append_assoc, List.set_set, hbx, ha, hbx_l, ha_l, hm, hm_l, hk]
      all_goals first | exact ⟨_, rfl, rfl⟩ | exact ⟨_, rfl⟩ | rfl
    · simp only [Option.getD_some] at h1
      subst h1
      refine kont_hax cx_ok hb 200 mixed [(0, true), (1, true), (2, true), (3, true), (4, true), (5, true), (6, true), (7, true), (8, true), (9, true)] (by kernel_rfl) (by kernel_rfl) ?_
      simp only [go_sem, Nat.reduceAdd, Nat.reduceSub, Nat.reduceMul, Nat.reduceBEq, Nat.reduceLT, Nat.reduceLeDiff, Nat.reduceEqDiff, Int.reduceToNat, Int.reduceLE, Int.reduceLT, Int.reduceAdd, Int.reduceSub, Int.reduceNeg, Int.reduceBEq, Int.reduceBNe, Nat.reduceBNe, Nat.reduceDiv, Nat.reduceMod, hgetA, hgetL, hgetLk, hsetA, hsetL, hsetLk, List.length_append, List.length_set, List.append_assoc, List.set_set, hbx, ha, hbx_l, ha_l, hm, hm_l, hk]
      refine ⟨_, rfl, ?_⟩
      congr 2
      rw [Bool.eq_iff_iff]; simp
theorem q6_ok (hp : SlAt Ob.ro (h.map Ob.ro) ((alook es e.cls).getD .nil) p) (hne : p ≠ []) : RFn0 Try.prog 79 h [.agg e.cells, .ptr lb 0 0 0] (fun d => d = dbool (!pkEq (p.getD 0 default) e.pk)) := by
  cases hk : alook es e.cls with
  | none =>
    rw [hk] at hp
    rcases hp with ⟨h1, rfl⟩ | ⟨lo, g, off, row, h1, h2, h3⟩
    · exact absurd rfl hne
    · cases h1
  | some d =>
    rw [hk] at hp
    rcases hp with ⟨h1, rfl⟩ | ⟨lo, g, off, row, h1, h2, h3⟩
    · exact absurd rfl hne
    · refine RFn0_hx cx_ok 200 Try.func79 rfl Try.ntmps79 Try.results79 rfl fun base w pl F hF hFl hb => ?_
      rw [← hF] at hbx ha hm h2
      have hbx_l := hlt hbx
      have ha_l := hlt ha
      have hm_l := hlt hm
      have h2_l := hlt h2
      simp only [go_sem, Nat.reduceAdd, Nat.reduceSub, Nat.reduceMul, Nat.reduceBEq, Nat.reduceLT, Nat.reduceLeDiff, Nat.reduceEqDiff, Int.reduceToNat, Int.reduceLE, Int.reduceLT, Int.reduceAdd, Int.reduceSub, Int.reduceNeg, Int.reduceBEq, Int.reduceBNe, Nat.reduceBNe, Nat.reduceDiv, Nat.reduceMod, hgetA, hgetL, hgetLk, hsetA, hsetL, hsetLk, List.length_append, List.length_set, List.append_assoc, List.set_set, hbx, hbx_l, ha, ha_l, hm, hm_l, h2, h2_l]
      simp only [Option.getD_some] at h1
      subst h1
      have hpos : 0 < p.length := List.length_pos_iff.2 hne
      have h4 := h3 0 hpos
      simp only [Nat.add_zero] at h4
      refine kont_hax cx_ok hb 200 mixed [(0, true), (1, true), (2, true), (3, true), (4, true), (5, true), (6, true), (7, true), (8, true), (9, true), (10, true), (11, true), (12, true)] (by kernel_rfl) (by kernel_rfl) ?_
      simp only [go_sem, Nat.reduceAdd, Nat.reduceSub, Nat.reduceMul, Nat.reduceBEq, Nat.reduceLT, Nat.reduceLeDiff, Nat.reduceEqDiff, Int.reduceToNat, Int.reduceLE, Int.reduceLT, Int.reduceAdd, Int.reduceSub, Int.reduceNeg, Int.reduceBEq, Int.reduceBNe, Nat.reduceBNe, Nat.reduceDiv, Nat.reduceMod, hgetA, hgetL, hgetLk, hsetA, hsetL, hsetLk, List.length_append, List.length_set, List.append_assoc, List.set_set, hbx, ha, hbx_l, ha_l, hm, hm_l, hk, h2, h2_l, h4, hpos]
      refine ⟨by omega, by omega, ?_⟩
      all_goals first | exact ⟨_, rfl, rfl⟩ | exact ⟨_, rfl⟩ | rfl
end
section
variable (h : List Ob) (lw : Nat) (e : Ev) (f : FuncId) (lc : Nat) (B : Bool)
theorem pick0_ok (hf : FnOk Try.prog f) (hw : (h.map Ob.ro)[lw]? = some ⟨.rone, 0, 1, 1, fun _ => [.clo f 0 [.ptr lc 0 0 0]]⟩) (hq : e.inn = false → ∀ h' : List Ob, (∀ (l : Nat) (o : Ob), (h.map Ob.ro)[l]? = some o → (h'.map Ob.ro)[l]? = some o) → RFn0 Try.prog f h' [.agg e.cells, .ptr lc 0 0 0] (fun d => d = dbool B)) :
    RFn0 Try.prog 72 h [.agg e.cells, .ptr lw 0 0 0] (fun d => d = dbool (!e.inn && B)) := by
  have hw0 := hw
  refine RFn0_hx cx_ok 200 Try.func72 rfl Try.ntmps72 Try.results72 rfl fun base w pl F hF hFl hb => ?_
  rw [← hF] at hw
  have hw_l := hlt hw
  simp only [go_sem, Nat.reduceAdd, Nat.reduceSub, Nat.reduceMul, Nat.reduceBEq, Nat.reduceLT, Nat.reduceLeDiff, Nat.reduceEqDiff, Int.reduceToNat, Int.reduceLE, Int.reduceLT, Int.reduceAdd, Int.reduceSub, Int.reduceNeg, Int.reduceBEq, Int.reduceBNe, Nat.reduceBNe, Nat.reduceDiv, Nat.reduceMod, hgetA, hgetL, hgetLk, hsetA, hsetL, hsetLk, List.length_append, List.length_set, List.append_assoc, List.set_set, hw, hw_l]
  cases hi : e.inn with
  | true =>
    simp only [go_sem, Nat.reduceAdd, Nat.reduceSub, Nat.reduceMul, Nat.reduceBEq, Nat.reduceLT, Nat.reduceLeDiff, Nat.reduceEqDiff, Int.reduceToNat, Int.reduceLE, Int.reduceLT, Int.reduceAdd, Int.reduceSub, Int.reduceNeg, Int.reduceBEq, Int.reduceBNe, Nat.reduceBNe, Nat.reduceDiv, Nat.reduceMod, hgetA, hgetL, hgetLk, hsetA, hsetL, hsetLk, List.length_append, List.length_set, List.append_assoc, List.set_set, hi]
    exact ⟨_, rfl⟩
  | false =>
    simp only [go_sem, Nat.reduceAdd, Nat.reduceSub, Nat.reduceMul, Nat.reduceBEq, Nat.reduceLT, Nat.reduceLeDiff, Nat.reduceEqDiff, Int.reduceToNat, Int.reduceLE, Int.reduceLT, Int.reduceAdd, Int.reduceSub, Int.reduceNeg, Int.reduceBEq, Int.reduceBNe, Nat.reduceBNe, Nat.reduceDiv, Nat.reduceMod, hgetA, hgetL, hgetLk, hsetA, hsetL, hsetLk, List.length_append, List.length_set, List.append_assoc, List.set_set, hi, hw, hw_l]
    refine kont_callR0 hb hf rfl ?_ (hq hi _ fun l o hl => ?_) rfl fun d hR => ?_
    · simp only [go_sem, Nat.reduceAdd, Nat.reduceSub, Nat.reduceMul, Nat.reduceBEq, Nat.reduceLT, Nat.reduceLeDiff, Nat.reduceEqDiff, Int.reduceToNat, Int.reduceLE, Int.reduceLT, Int.reduceAdd, Int.reduceSub, Int.reduceNeg, Int.reduceBEq, Int.reduceBNe, Nat.reduceBNe, Nat.reduceDiv, Nat.reduceMod, hgetA, hgetL, hgetLk, hsetA, hsetL, hsetLk, List.length_append, List.length_set, List.append_assoc, List.set_set, hi]
    · rw [List.map_append, hF, List.map_map]
      have := hlt hl
      rw [hgetA (by simpa using this)]
      simp only [List.getElem?_map] at hl ⊢
      rw [← hl]
      cases h[l]? with
      | none => rfl
      | some o => simp [ro_ro]
    · subst hR
      refine kont_of_hx cx_ok hb 200 ?_
      simp only [go_sem, Nat.reduceAdd, Nat.reduceSub, Nat.reduceMul, Nat.reduceBEq, Nat.reduceLT, Nat.reduceLeDiff, Nat.reduceEqDiff, Int.reduceToNat, Int.reduceLE, Int.reduceLT, Int.reduceAdd, Int.reduceSub, Int.reduceNeg, Int.reduceBEq, Int.reduceBNe, Nat.reduceBNe, Nat.reduceDiv, Nat.reduceMod, hgetA, hgetL, hgetLk, hsetA, hsetL, hsetLk, List.length_append, List.length_set, List.append_assoc, List.set_set]
      all_goals first | exact ⟨_, rfl, rfl⟩ | exact ⟨_, rfl⟩ | rfl
theorem pick1_ok (hf : FnOk Try.prog f) (hw : (h.map Ob.ro)[lw]? = some ⟨.rone, 0, 1, 1, fun _ => [.clo f 1 [.ptr lc 0 0 0]]⟩) (hq : e.inn = false → ∀ h' : List Ob, (∀ (l : Nat) (o : Ob), (h.map Ob.ro)[l]? = some o → (h'.map Ob.ro)[l]? = some o) → RFn0 Try.prog f h' [.ptr lc 0 0 0, .agg e.cells] (fun d => d = dbool B)) :
    RFn0 Try.prog 72 h [.agg e.cells, .ptr lw 0 0 0] (fun d => d = dbool (!e.inn && B)) := by
  have hw0 := hw
  refine RFn0_hx cx_ok 200 Try.func72 rfl Try.ntmps72 Try.results72 rfl fun base w pl F hF hFl hb => ?_
  rw [← hF] at hw
  have hw_l := hlt hw
  simp only [go_sem, Nat.reduceAdd, Nat.reduceSub, Nat.reduceMul, Nat.reduceBEq, Nat.reduceLT, Nat.reduceLeDiff, Nat.reduceEqDiff, Int.reduceToNat, Int.reduceLE, Int.reduceLT, Int.reduceAdd, Int.reduceSub, Int.reduceNeg, Int.reduceBEq, Int.reduceBNe, Nat.reduceBNe, Nat.reduceDiv, Nat.reduceMod, hgetA, hgetL, hgetLk, hsetA, hsetL, hsetLk, List.length_append, List.length_set, List.append_assoc, List.set_set, hw, hw_l]
  cases hi : e.inn with
  | true =>
    simp only [go_sem, Nat.reduceAdd, Nat.reduceSub, Nat.reduceMul, Nat.reduceBEq, Nat.reduceLT, Nat.reduceLeDiff, Nat.reduceEqDiff, Int.reduceToNat, Int.reduceLE, Int.reduceLT, Int.reduceAdd, Int.reduceSub, Int.reduceNeg, Int.reduceBEq, Int.reduceBNe, Nat.reduceBNe, Nat.reduceDiv, Nat.reduceMod, hgetA, hgetL, hgetLk, hsetA, hsetL, hsetLk, List.length_append, List.length_set, List.append_assoc, List.set_set, hi]
    exact ⟨_, rfl⟩
  | false =>
    simp only [go_sem, Nat.reduceAdd, Nat.reduceSub, Nat.reduceMul, Nat.reduceBEq, Nat.reduceLT, Nat.reduceLeDiff, Nat.reduceEqDiff, Int.reduceToNat, Int.reduceLE, Int.reduceLT, Int.reduceAdd, Int.reduceSub, Int.reduceNeg, Int.reduceBEq, Int.reduceBNe, Nat.reduceBNe, Nat.reduceDiv, Nat.reduceMod, hgetA, hgetL, hgetLk, hsetA, hsetL, hsetLk, List.length_append, List.length_set, List.append_assoc, List.set_set, hi, hw, hw_l]
    refine kont_callR0 hb hf rfl ?_ (hq hi _ fun l o hl => ?_) rfl fun d hR => ?_
    · simp only [go_sem, Nat.reduceAdd, Nat.reduceSub, Nat.reduceMul, Nat.reduceBEq, Nat.reduceLT, Nat.reduceLeDiff, Nat.reduceEqDiff, Int.reduceToNat, Int.reduceLE, Int.reduceLT, Int.reduceAdd, Int.reduceSub, Int.reduceNeg, Int.reduceBEq, Int.reduceBNe, Nat.reduceBNe, Nat.reduceDiv, Nat.reduceMod, hgetA, hgetL, hgetLk, hsetA, hsetL, hsetLk, List.length_append, List.length_set, List.append_assoc, List.set_set, hi]
    · rw [List.map_append, hF, List.map_map]
      have := hlt hl
      rw [hgetA (by simpa using this)]
      simp only [List.getElem?_map] at hl ⊢
      rw [← hl]
      cases h[l]? with
      | none => rfl
      | some o => simp [ro_ro]
    · subst hR
      refine kont_of_hx cx_ok hb 200 ?_
      simp only [go_sem, Nat.reduceAdd, Nat.reduceSub, Nat.reduceMul, Nat.reduceBEq, Nat.reduceLT, Nat.reduceLeDiff, Nat.reduceEqDiff, Int.reduceToNat, Int.reduceLE, Int.reduceLT, Int.reduceAdd, Int.reduceSub, Int.reduceNeg, Int.reduceBEq, Int.reduceBNe, Nat.reduceBNe, Nat.reduceDiv, Nat.reduceMod, hgetA, hgetL, hgetLk, hsetA, hsetL, hsetLk, List.length_append, List.length_set, List.append_assoc, List.set_set]
      all_goals first | exact ⟨_, rfl, rfl⟩ | exact ⟨_, rfl⟩ | rfl
end
end Go.Fg.X
