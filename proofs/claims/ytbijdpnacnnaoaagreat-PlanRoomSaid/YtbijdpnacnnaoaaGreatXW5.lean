/- Walks of the functions that the statement reaches. No conditions: contracts and laws. -/
import Derived.Test.YtbijdpnacnnaoaaGreatSUa
import Derived.Sort.Walk13a
import Derived.Test.YtbijdpnacnnaoaaGreatSU3
import Derived.Test.YtbijdpnacnnaoaaGreatXW0
/- The sort of words of 64 bits: walked (11): the whole. Conditions: places within the array. -/
namespace Go.Fg.X
open Go.Proofs Go.Fg
set_option maxRecDepth 100000
set_option maxHeartbeats 4000000
set_option linter.unusedSimpArgs false
set_option linter.unusedVariables false
theorem insOuter_sz (a b : Nat) : ∀ (n i : Nat) (d : Array Int), b - i ≤ n → (Sort.insOuter ltI a b i d).size = d.size
  | n, i, d, hn => by
    rw [Sort.insOuter]
    split
    · obtain ⟨n', rfl⟩ : ∃ n', n = n' + 1 := ⟨n - 1, by omega⟩
      rw [insOuter_sz a b n' _ _ (by omega), insInner_size]
    · rfl
theorem insertion_sz (d : Array Int) (a b : Nat) : (Sort.insertionSort ltI d a b).size = d.size := insOuter_sz a b _ _ d (Nat.le_refl _)
theorem heapPop_sz (first : Nat) : ∀ (k : Nat) (d : Array Int), (Sort.heapPop ltI first k d).size = d.size
  | 0, d => rfl
  | k + 1, d => by rw [Sort.heapPop, heapPop_sz first k, siftDown_sz, swp_size]
theorem heap_sz (d : Array Int) (a b : Nat) : (Sort.heapSort ltI d a b).size = d.size := by rw [Sort.heapSort, heapPop_sz, heapBuild_sz]
theorem break_sz (d : Array Int) (a b : Nat) : (Sort.breakPatterns d a b).size = d.size := by
  by_cases c : b - a ≥ 8
  · rw [bp_eq d a b c, bpS_size]
  · unfold Sort.breakPatterns
    dsimp only
    rw [if_neg c]
theorem revLoop_sz : ∀ (n i j : Nat) (d : Array Int), j - i ≤ n → (Sort.reverseLoop i j d).size = d.size
  | n, i, j, d, hn => by
    rw [Sort.reverseLoop]
    split
    · obtain ⟨n', rfl⟩ : ∃ n', n = n' + 1 := ⟨n - 1, by omega⟩
      rw [revLoop_sz n' _ _ _ (by omega), swp_size]
    · rfl
theorem rev_sz (d : Array Int) (a b : Nat) : (Sort.reverseRange d a b).size = d.size := revLoop_sz _ _ _ d (Nat.le_refl _)
theorem partialIns_sz (a b : Nat) : ∀ (s i : Nat) (d : Array Int), (Sort.partialIns ltI a b s i d).1.size = d.size
  | 0, i, d => rfl
  | s + 1, i, d => by
    rw [Sort.partialIns]
    dsimp only
    split
    · rfl
    · split
      · rfl
      · rw [partialIns_sz a b s]
        have e : ∀ dd : Array Int, (if b - Sort.scanSorted ltI d b i ≥ 2 then Sort.shiftUp ltI b (Sort.scanSorted ltI d b i + 1) dd else dd).size = dd.size := fun dd => by
          split
          · exact shiftUp_sz b _ _ _ (Nat.le_refl _)
          · rfl
        rw [e]
        split
        · rw [shiftDown_sz, swp_size]
        · rw [swp_size]
theorem partEq_sz (d : Array Int) (a b p : Nat) : (Sort.partitionEqual ltI d a b p).2.size = d.size := by
  rw [Sort.partitionEqual, partEq_size a _ _ _ _ (Nat.le_refl _), swp_size]
theorem partition_sz (d : Array Int) (a b p : Nat) : (Sort.partition ltI d a b p).2.2.size = d.size := by
  rw [Sort.partition_arr, swp_size, part_size a _ _ _ _ (Nat.le_refl _), swp_size]
theorem rd_sz (d : Array Int) (a b l : Nat) (wb wp : Bool) : (Sort.rd ltI d a b l wb wp).d1.size = d.size ∧ (Sort.rd ltI d a b l wb wp).d2.size = d.size ∧ (Sort.rd ltI d a b l wb wp).pi.1.size = d.size := by
  have h1 : (Sort.rd ltI d a b l wb wp).d1.size = d.size := by
    cases wb
    · exact break_sz d a b
    · rfl
  have h2 : (Sort.rd ltI d a b l wb wp).d2.size = d.size := by
    by_cases hh : (Sort.rd ltI d a b l wb wp).c.2 = .decreasing
    · rw [(Sort.rd_dec hh).1, rev_sz, h1]
    · rw [(Sort.rd_not hh).1, h1]
  refine ⟨h1, h2, ?_⟩
  cases hc : (wb && wp && decide ((Sort.rd ltI d a b l wb wp).hint = .increasing))
  · rw [Sort.rd_pi_no hc, h2]
  · rw [Sort.rd_pi_yes hc, Sort.partialInsertionSort, partialIns_sz, h2]
theorem partEqLoop_rng (a : Nat) : ∀ (n i j : Nat) (d : Array Int), j + 1 - i ≤ n → a < i → i ≤ j + 1 → a < (Sort.partEqLoop ltI a i j d).1 ∧ (Sort.partEqLoop ltI a i j d).1 ≤ j + 1
  | n, i, j, d, hn, hai, hij => by
    have hord := scans_ord (fun x => !ltI d[a]! x) (fun x => ltI d[a]! x) (fun x => by simp) d i j (by omega) hij
    obtain ⟨u1, u2, u3, u4⟩ := Sort.scanUp_spec (fun x => !ltI d[a]! x) d j _ i rfl
    obtain ⟨v1, v2, v3, v4⟩ := Sort.scanDown_spec (fun x => ltI d[a]! x) d (Sort.scanUp (fun x => !ltI d[a]! x) d j i) j
    have u5 := u2 hij
    rw [Sort.partEqLoop_eq]
    split
    · exact ⟨by dsimp only; omega, u5⟩
    · rename_i h
      have h2 := hord h
      have := Sort.partEqLoop_guard ltI a i j d h
      obtain ⟨n', rfl⟩ : ∃ n', n = n' + 1 := ⟨n - 1, by omega⟩
      obtain ⟨r1, r2⟩ := partEqLoop_rng a n' _ _ (Sort.swp d (Sort.scanUp (fun x => !ltI d[a]! x) d j i) (Sort.scanDown (fun x => ltI d[a]! x) d (Sort.scanUp (fun x => !ltI d[a]! x) d j i) j)) (show (Sort.scanDown (fun x => ltI d[a]! x) d (Sort.scanUp (fun x => !ltI d[a]! x) d j i) j - 1) + 1 - (Sort.scanUp (fun x => !ltI d[a]! x) d j i + 1) ≤ n' by omega) (by omega) (by omega)
      exact ⟨r1, by omega⟩
theorem partEq_rng (d : Array Int) (a b p : Nat) (hab : a < b) : a < (Sort.partitionEqual ltI d a b p).1 ∧ (Sort.partitionEqual ltI d a b p).1 ≤ b := by
  have := partEqLoop_rng a _ (a + 1) (b - 1) (Sort.swp d a p) (Nat.le_refl _) (by omega) (by omega)
  rw [Sort.partitionEqual]
  omega
theorem ltI_swo : Sort.SWO ltI := ⟨fun x => by simp [ltI], fun x y z h1 h2 => by simp [ltI] at *; omega, fun x y z h1 h2 => by simp [ltI] at *; omega⟩
theorem partition_rng (d : Array Int) (a b p : Nat) (h1 : a ≤ p) (h2 : p < b) (hb : b ≤ d.size) : a ≤ (Sort.partition ltI d a b p).1 ∧ (Sort.partition ltI d a b p).1 < b := by
  have := Sort.partition_holds ltI ltI_swo d a b p h1 h2 hb
  exact ⟨this.1, this.2.1⟩
theorem rd_pivot (d : Array Int) (a b l : Nat) (wb wp : Bool) (hab : a < b) : a ≤ (Sort.rd ltI d a b l wb wp).pivot ∧ (Sort.rd ltI d a b l wb wp).pivot < b := by
  have h := Sort.choosePivot_holds ltI (Sort.rd ltI d a b l wb wp).d1 a b hab
  rw [← Sort.rd_c] at h
  by_cases hh : (Sort.rd ltI d a b l wb wp).c.2 = .decreasing
  · rw [(Sort.rd_dec hh).2.1]; omega
  · rw [(Sort.rd_not hh).2.1]; exact h
theorem pdq_sz : ∀ (n : Nat) (d : Array Int) (a b l : Nat) (wb wp : Bool), b - a ≤ n → (Sort.pdq ltI d a b l wb wp).size = d.size
  | n, d, a, b, l, wb, wp, hn => by
    obtain ⟨z1, z2, z3⟩ := rd_sz d a b l wb wp
    rw [Sort.pdq_unfold]
    split
    · exact insertion_sz d a b
    · split
      · exact heap_sz d a b
      · obtain ⟨n', rfl⟩ : ∃ n', n = n' + 1 := ⟨n - 1, by omega⟩
        split
        · exact z3
        · split
          · split
            · rename_i h
              rw [pdq_sz n' _ _ _ _ _ _ (by omega), partEq_sz, z3]
            · rw [partEq_sz, z3]
          · split
            · rename_i h
              split
              · rw [pdq_sz n' _ _ _ _ _ _ (by omega), pdq_sz n' _ _ _ _ _ _ (by omega), partition_sz, z3]
              · rw [pdq_sz n' _ _ _ _ _ _ (by omega), pdq_sz n' _ _ _ _ _ _ (by omega), partition_sz, z3]
            · rw [partition_sz, z3]
end Go.Fg.X
/- The sort of words of 64 bits: walked (12): the recursion. Conditions: places within the array. -/
namespace Go.Fg.X
open Go.Proofs Go.Fg
set_option maxRecDepth 100000
set_option maxHeartbeats 8000000
set_option linter.unusedSimpArgs false
set_option linter.unusedVariables false
def PdqOk (n : Nat) : Prop := ∀ (h : List Ob) (lo g : Nat) (d : Array Int), h[lo]? = some (arrO g d) → ∀ a b l : Nat, a ≤ b → b ≤ d.size → l < 1000 → d.size < 1000000000 → b - a < n →
  MFn Tryz.prog 102 h [.ref lo g 0 d.size, dint a, dint b, dint l] (fun dd h' => dd = .tup [] ∧ ∃ t, h' = h.set lo (arrO g (Sort.pdq ltI d a b l true true)) ++ t)
theorem setT {h t : List Ob} {lo : Nat} {x y : Ob} (hl : lo < h.length) : (h.set lo x ++ t).set lo y = h.set lo y ++ t := by
  rw [List.set_append_left _ _ (by simpa using hl), List.set_set]
theorem atT {h t : List Ob} {lo : Nat} {x : Ob} (hl : lo < h.length) : (h.set lo x ++ t)[lo]? = some x := by
  rw [List.getElem?_append_left (by simpa using hl), hgetS hl]
theorem hintN_eq (c : Sort.Hint) (k : Sort.Hint) : ((hintN c : Int) == (hintN k : Int)) = decide (c = k) := by cases c <;> cases k <;> rfl
theorem pdq_step (n : Nat) (IH : PdqOk n) {h : List Ob} {lo g : Nat} {d : Array Int} (ho : h[lo]? = some (arrO g d)) (a b l : Nat) (hab : a ≤ b) (hb0 : b ≤ d.size) (hl : l < 1000) (hz : d.size < 1000000000) (hn : b - a < n + 1) :
    MFn Tryz.prog 102 h [.ref lo g 0 d.size, dint a, dint b, dint l] (fun dd h' => dd = .tup [] ∧ ∃ t, h' = h.set lo (arrO g (Sort.pdq ltI d a b l true true)) ++ t) := by
  refine MFn_hx cx_ok 200 Tryz.func102 rfl Tryz.ntmps102 Tryz.results102 rfl fun base w pl hb => ?_
  have ho_l := hlt ho
  simp only [go_sem, simprocAttr, hgetA, hgetL, hgetLk, hsetA, hsetL, hsetLk, List.length_append, List.length_set, List.append_assoc, List.set_set, ho, ho_l]
  refine kont_for (fun m st => ∃ (d1 : Array Int) (a1 b1 l1 : Nat) (wb wp : Bool) (t : List Ob), d1.size = d.size ∧ a1 ≤ b1 ∧ b1 ≤ d.size ∧ l1 < 1000 ∧ m + (b1 - a1) ≤ b - a ∧ Sort.pdq ltI d1 a1 b1 l1 wb wp = Sort.pdq ltI d a b l true true ∧ st = ⟨[(0, .ref lo g 0 d.size), (1, dint a1), (2, dint b1), (3, dint l1), (8, dbool wb), (9, dbool wp)], h.set lo (arrO g d1) ++ t⟩) (b - a) (s0 := ⟨[(0, .ref lo g 0 d.size), (1, dint a), (2, dint b), (3, dint l), (8, dbool true), (9, dbool true)], h.set lo (arrO g d) ++ []⟩) ?_ ⟨d, a, b, l, true, true, [], rfl, hab, hb0, hl, by omega, rfl, rfl⟩ ?_
  · rw [setU_same ho, List.append_nil]
    exact Weak.frame (by simp only [go_sem, simprocAttr])
  rintro m _ hm ⟨d1, a1, b1, l1, wb, wp, t1, hs1, hab1, hbd1, hl1, hmm, hpd, rfl⟩
  have e0 : IntKind.i64.wrap ((b1 : Int) - a1) = ((b1 - a1 : Nat) : Int) := by rw [wrap64 (by omega) (by omega)]; omega
  have at1 : (h.set lo (arrO g d1) ++ t1)[lo]? = some (arrO g d1) := atT ho_l
  rw [Sort.pdq_unfold] at hpd
  by_cases c12 : b1 - a1 ≤ 12
  · have d12 : decide (((b1 - a1 : Nat) : Int) ≤ 12) = true := decide_eq_true (by omega)
    rw [if_pos c12] at hpd
    refine kont_of_hx cx_ok hb 200 ?_
    simp only [go_sem, simprocAttr, hgetA, hgetL, hgetLk, hsetA, hsetL, hsetLk, List.length_append, List.length_set, List.append_assoc, List.set_set, e0, d12]
    refine kont_callH hb fn121 rfl ?_ (hs1 ▸ insertion_ok at1 a1 b1 (by omega) (by omega) (by omega)) rfl fun d h hR => ?_
    · simp only [go_sem, simprocAttr]
    obtain ⟨rfl, rfl⟩ := hR
    refine kont_of_hx cx_ok hb 200 ?_
    simp only [go_sem, simprocAttr]
    refine ⟨t1, ?_⟩
    rw [← hpd]
    exact setT ho_l
  · have d12 : decide (((b1 - a1 : Nat) : Int) ≤ 12) = false := decide_eq_false (by omega)
    rw [if_neg c12] at hpd
    by_cases cl : l1 = 0
    · have dl : ((l1 : Int) == 0) = true := by rw [cl]; rfl
      rw [if_pos cl] at hpd
      refine kont_of_hx cx_ok hb 200 ?_
      simp only [go_sem, simprocAttr, hgetA, hgetL, hgetLk, hsetA, hsetL, hsetLk, List.length_append, List.length_set, List.append_assoc, List.set_set, e0, d12, dl]
      refine kont_callH hb fn122 rfl ?_ (hs1 ▸ heapSort_ok at1 a1 b1 (by omega) (by omega) (by omega)) rfl fun d h hR => ?_
      · simp only [go_sem, simprocAttr]
      obtain ⟨rfl, rfl⟩ := hR
      refine kont_of_hx cx_ok hb 200 ?_
      simp only [go_sem, simprocAttr]
      refine ⟨t1, ?_⟩
      rw [← hpd]
      exact setT ho_l
    · have dl : ((l1 : Int) == 0) = false := beq_eq_false_iff_ne.mpr (by omega)
      rw [if_neg cl] at hpd
      refine kont_of_hx cx_ok hb 30 ?_
      simp only [go_sem, simprocAttr, hgetA, hgetL, hgetLk, hsetA, hsetL, hsetLk, List.length_append, List.length_set, List.append_assoc, List.set_set, e0, d12, dl]
      obtain ⟨z1, z2, z3⟩ := rd_sz d1 a1 b1 l1 wb wp
      have hlim := Sort.rd_lim_le (lt := ltI) (d := d1) (a := a1) (b := b1) (limit := l1) (wb := wb) (wp := wp)
      have hpv := rd_pivot d1 a1 b1 l1 wb wp (by omega)
      rw [hs1] at z1 z2 z3
      first | refine kont_seq ?_ | skip
      refine kont_joinP (fun st => ∃ t, st = ⟨[(0, .ref lo g 0 d.size), (1, dint a1), (2, dint b1), (3, dint (Sort.rd ltI d1 a1 b1 l1 wb wp).lim), (8, dbool wb), (9, dbool wp), (10, dint (b1 - a1 : Nat))], h.set lo (arrO g (Sort.rd ltI d1 a1 b1 l1 wb wp).d1) ++ t⟩) ?_ ?_
      · cases wb
        · have vl : IntKind.i64.wrap ((l1 : Int) - 1) = ((l1 - 1 : Nat) : Int) := by rw [wrap64 (by omega) (by omega)]; omega
          rw [Sort.rd_false.1, Sort.rd_false.2]
          refine kont_of_hx cx_ok hb 200 ?_
          simp only [go_sem, simprocAttr]
          refine kont_callH hb fn123 rfl ?_ (hs1 ▸ break_ok at1 a1 b1 (by omega) (by omega) (by omega)) rfl fun d h hR => ?_
          · simp only [go_sem, simprocAttr, vl]
          obtain ⟨rfl, t2, rfl⟩ := hR
          refine kont_of_hx cx_ok hb 200 ?_
          simp only [go_sem, simprocAttr, vl]
          refine ⟨_, ⟨t1 ++ t2, rfl⟩, ?_⟩
          rw [setT ho_l, List.append_assoc]
          exact Weak.frame (by simp only [go_sem, simprocAttr])
        · rw [Sort.rd_true.1, Sort.rd_true.2]
          refine kont_of_hx cx_ok hb 200 ?_
          simp only [go_sem, simprocAttr]
          refine ⟨_, ⟨t1, rfl⟩, ?_⟩
          exact Weak.frame (by simp only [go_sem, simprocAttr])
      have hc := Sort.rd_c (lt := ltI) (d := d1) (a := a1) (b := b1) (limit := l1) (wb := wb) (wp := wp)
      have hdec := Sort.rd_dec (lt := ltI) (d := d1) (a := a1) (b := b1) (limit := l1) (wb := wb) (wp := wp)
      have hnot := Sort.rd_not (lt := ltI) (d := d1) (a := a1) (b := b1) (limit := l1) (wb := wb) (wp := wp)
      have hyes := Sort.rd_pi_yes (lt := ltI) (d := d1) (a := a1) (b := b1) (limit := l1) (wb := wb) (wp := wp)
      have hno := Sort.rd_pi_no (lt := ltI) (d := d1) (a := a1) (b := b1) (limit := l1) (wb := wb) (wp := wp)
      have hcp := Sort.choosePivot_holds ltI (Sort.rd ltI d1 a1 b1 l1 wb wp).d1 a1 b1 (by omega)
      rw [← hc] at hcp
      generalize Sort.rd ltI d1 a1 b1 l1 wb wp = R at *
      rintro _ ⟨t2, rfl⟩
      refine kont_of_hx cx_ok hb 200 ?_
      simp only [go_sem, simprocAttr, hgetA, hgetL, hgetLk, hsetA, hsetL, hsetLk, List.length_append, List.length_set, List.append_assoc, List.set_set]
      refine kont_callH hb fn124 rfl ?_ (z1 ▸ choosePivot_ok (atT (x := arrO g R.d1) ho_l) a1 b1 (by omega) (by omega) (by omega)) rfl fun d h hR => ?_
      · simp only [go_sem, simprocAttr, List.append_assoc]
      obtain ⟨rfl, t3, rfl⟩ := hR
      refine kont_of_hx cx_ok hb 12 ?_
      simp only [go_sem, simprocAttr, List.append_assoc]
      rw [← hc]
      first | refine kont_seq ?_ | skip
      refine kont_joinP (fun st => ∃ t, st = ⟨[(0, .ref lo g 0 d.size), (1, dint a1), (2, dint b1), (3, dint R.lim), (8, dbool wb), (9, dbool wp), (10, dint (b1 - a1 : Nat)), (11, dint R.pivot), (12, dint (hintN R.hint : Nat))], h.set lo (arrO g R.d2) ++ t⟩) ?_ ?_
      · by_cases hh : R.c.2 = .decreasing
        · obtain ⟨r1, r2, r3⟩ := hdec hh
          have b2 : ((hintN R.c.2 : Int) == 2) = true := by rw [hh]; rfl
          have v1 : IntKind.i64.wrap ((b1 : Int) - 1) = ((b1 - 1 : Nat) : Int) := by rw [wrap64 (by omega) (by omega)]; omega
          have v2 : IntKind.i64.wrap ((R.c.1 : Int) - a1) = ((R.c.1 - a1 : Nat) : Int) := by rw [wrap64 (by omega) (by omega)]; omega
          have v3 : IntKind.i64.wrap (((b1 - 1 : Nat) : Int) - (R.c.1 - a1 : Nat)) = (((b1 - 1) - (R.c.1 - a1) : Nat) : Int) := by rw [wrap64 (by omega) (by omega)]; omega
          refine kont_of_hx cx_ok hb 200 ?_
          simp only [go_sem, simprocAttr, b2]
          refine kont_callH hb fn125 rfl ?_ (z1 ▸ reverse_ok (atT (x := arrO g R.d1) ho_l) a1 b1 (by omega) (by omega) (by omega)) rfl fun d h hR => ?_
          · simp only [go_sem, simprocAttr, v1, v2, v3]
          obtain ⟨rfl, rfl⟩ := hR
          refine kont_of_hx cx_ok hb 200 ?_
          simp only [go_sem, simprocAttr, v1, v2, v3]
          rw [r1, r2, r3]
          refine ⟨_, ⟨t2 ++ t3, rfl⟩, ?_⟩
          rw [setT ho_l]
          exact Weak.frame (by simp only [go_sem, simprocAttr]; first | rfl | exact ⟨rfl, rfl⟩)
        · obtain ⟨r1, r2, r3⟩ := hnot hh
          have b2 : ((hintN R.c.2 : Int) == 2) = false := by rw [show (2 : Int) = (hintN .decreasing : Int) from rfl, hintN_eq]; exact decide_eq_false hh
          refine kont_of_hx cx_ok hb 200 ?_
          simp only [go_sem, simprocAttr, b2]
          rw [r1, r2, r3]
          refine ⟨_, ⟨t2 ++ t3, rfl⟩, ?_⟩
          exact Weak.frame (by simp only [go_sem, simprocAttr])
      rintro _ ⟨t4, rfl⟩
      refine kont_seq ?_
      first | refine kont_seq ?_ | skip
      refine kont_join (⟨[(0, .ref lo g 0 d.size), (1, dint a1), (2, dint b1), (3, dint R.lim), (8, dbool wb), (9, dbool wp), (10, dint (b1 - a1 : Nat)), (11, dint R.pivot), (12, dint (hintN R.hint : Nat)), (68, dbool (wb && wp && decide (R.hint = .increasing)))], h.set lo (arrO g R.d2) ++ t4⟩) ?_ ?_
      · cases wb
        · refine kont_of_hx cx_ok hb 200 ?_
          simp only [go_sem, simprocAttr, hgetA, hgetL, hgetLk, hsetA, hsetL, hsetLk, List.length_append, List.length_set, List.append_assoc, List.set_set]
          exact Weak.frame (by simp only [go_sem, simprocAttr, Bool.false_and])
        · cases wp
          · refine kont_of_hx cx_ok hb 200 ?_
            simp only [go_sem, simprocAttr, hgetA, hgetL, hgetLk, hsetA, hsetL, hsetLk, List.length_append, List.length_set, List.append_assoc, List.set_set]
            exact Weak.frame (by simp only [go_sem, simprocAttr, Bool.false_and, Bool.true_and])
          · have b1' : ((hintN R.hint : Int) == 1) = decide (R.hint = .increasing) := hintN_eq R.hint .increasing
            refine kont_of_hx cx_ok hb 200 ?_
            simp only [go_sem, simprocAttr, hgetA, hgetL, hgetLk, hsetA, hsetL, hsetLk, List.length_append, List.length_set, List.append_assoc, List.set_set, b1']
            exact Weak.frame (by simp only [go_sem, simprocAttr, Bool.false_and, Bool.true_and])
      first | refine kont_seq ?_ | skip
      refine kont_joinP (fun st => R.pi.2 = false ∧ ∃ t, st = ⟨[(0, .ref lo g 0 d.size), (1, dint a1), (2, dint b1), (3, dint R.lim), (8, dbool wb), (9, dbool wp), (10, dint (b1 - a1 : Nat)), (11, dint R.pivot)], h.set lo (arrO g R.pi.1) ++ t⟩) ?_ ?_
      · cases hB : (wb && wp && decide (R.hint = .increasing))
        · have hp := hno hB
          refine kont_of_hx cx_ok hb 200 ?_
          simp only [go_sem, simprocAttr]
          rw [hp]
          refine ⟨_, ⟨rfl, t4, rfl⟩, ?_⟩
          exact Weak.frame (by simp only [go_sem, simprocAttr])
        · have hp := hyes hB
          refine kont_of_hx cx_ok hb 200 ?_
          simp only [go_sem, simprocAttr]
          refine kont_callH hb fn126 rfl ?_ (z2 ▸ partialIns_ok (atT (x := arrO g R.d2) ho_l) a1 b1 (by omega) (by omega) (by omega)) rfl fun d h hR => ?_
          · simp only [go_sem, simprocAttr]
          obtain ⟨rfl, rfl⟩ := hR
          refine kont_of_hx cx_ok hb 200 ?_
          simp only [go_sem, simprocAttr]
          rw [← hp]
          cases hb2 : R.pi.2
          · simp only [go_sem, simprocAttr]
            refine ⟨_, ⟨t4, rfl⟩, ?_⟩
            rw [setT ho_l]
            exact Weak.frame (by simp only [go_sem, simprocAttr])
          · rw [if_pos hb2] at hpd
            simp only [go_sem, simprocAttr]
            refine ⟨t4, ?_⟩
            rw [← hpd]
            exact setT ho_l
      rintro _ ⟨hpi2, t5, rfl⟩
      rw [if_neg (by rw [hpi2]; decide)] at hpd
      generalize hD : R.pi.1 = DA at *
      have atD : (h.set lo (arrO g DA) ++ t5)[lo]? = some (arrO g DA) := atT ho_l
      generalize hHD : h.set lo (arrO g DA) ++ t5 = HD at atD
      have atD_l := hlt atD
      have p2 : R.pivot < d.size := by omega
      have f1 : a1 > 0 → IntKind.i64.wrap ((a1 : Int) - 1) = ((a1 - 1 : Nat) : Int) := fun q => by rw [wrap64 (by omega) (by omega)]; omega
      have p1 : a1 - 1 < d.size := by omega
      refine kont_seq ?_
      first | refine kont_seq ?_ | skip
      refine kont_joinF [0, 1, 2, 3, 8, 9, 10, 11] [(87, dbool (decide (a1 > 0) && !ltI DA[a1 - 1]! DA[R.pivot]!))] rfl ?_ ?_
      · by_cases ca : a1 > 0
        · have da : decide ((0 : Int) < (a1 : Int)) = true := decide_eq_true (by omega)
          have f2 := f1 ca
          refine kont_hax cx_ok hb 200 mixed [(0, true), (1, true), (2, true), (3, true), (4, true), (5, true), (6, true), (7, true), (8, true), (9, true), (10, true), (11, true), (12, false), (13, true), (14, true)] (by kernel_rfl) (by kernel_rfl) ?_
          simp only [go_sem, simprocAttr, hgetA, hgetL, hgetLk, hsetA, hsetL, hsetLk, List.length_append, List.length_set, List.append_assoc, List.set_set, atD, atD_l, z3, da, f2, p1, p2]
          refine AX_call hb fn127 rfl ?_ (lessU_ok DA[a1 - 1]! DA[R.pivot]!) (Ret.flat rfl) rfl fun d h hR => ?_
          · simp only [go_sem, simprocAttr]
          obtain ⟨rfl, rfl⟩ := hR
          refine AX_of_hax cx_ok hb ?_
          simp only [go_sem, simprocAttr]
          exact Weak.frame (by simp only [go_sem, simprocAttr, decide_eq_true ca, Bool.true_and])
        · have da : decide ((0 : Int) < (a1 : Int)) = false := decide_eq_false (by omega)
          refine kont_hax cx_ok hb 200 mixed [(0, true), (1, true), (2, true), (3, true), (4, true), (5, true), (6, true), (7, true), (8, true), (9, true), (10, true), (11, true), (12, false), (13, true), (14, true)] (by kernel_rfl) (by kernel_rfl) ?_
          simp only [go_sem, simprocAttr, hgetA, hgetL, hgetLk, hsetA, hsetL, hsetLk, List.length_append, List.length_set, List.append_assoc, List.set_set, atD, atD_l, z3, da]
          exact Weak.frame (by simp only [go_sem, simprocAttr, decide_eq_false ca, Bool.false_and])
      cases hB : (decide (a1 > 0) && !ltI DA[a1 - 1]! DA[R.pivot]!)
      · rw [hB, if_neg (by decide)] at hpd
        have hr := partition_rng DA a1 b1 R.pivot hpv.1 hpv.2 (by omega)
        have hsz := partition_sz DA a1 b1 R.pivot
        rw [if_pos hr] at hpd
        refine kont_of_hx cx_ok hb 200 ?_
        simp only [go_sem, simprocAttr, hgetA, hgetL, hgetLk, hsetA, hsetL, hsetLk, List.length_append, List.length_set, List.append_assoc, List.set_set, hB]
        refine kont_callH hb fn129 rfl ?_ (z3 ▸ partition_ok atD a1 b1 R.pivot (by omega) (by omega) hpv.1 hpv.2 (by omega)) rfl fun d h hR => ?_
        · simp only [go_sem, simprocAttr]
        obtain ⟨rfl, rfl⟩ := hR
        refine kont_of_hx cx_ok hb 200 ?_
        simp only [go_sem, simprocAttr]
        generalize Sort.partition ltI DA a1 b1 R.pivot = pt at *
        obtain ⟨mid, already, E⟩ := pt
        dsimp only at *
        have k1 : IntKind.i64.wrap ((mid : Int) - a1) = ((mid - a1 : Nat) : Int) := by rw [wrap64 (by omega) (by omega)]; omega
        have k2 : IntKind.i64.wrap ((b1 : Int) - mid) = ((b1 - mid : Nat) : Int) := by rw [wrap64 (by omega) (by omega)]; omega
        have k3 : ((b1 - a1 : Nat) : Int).tdiv 8 = (((b1 - a1) / 8 : Nat) : Int) := rfl
        have k4 : IntKind.i64.wrap ((((b1 - a1) / 8 : Nat) : Int)) = (((b1 - a1) / 8 : Nat) : Int) := by rw [wrap64 (by omega) (by omega)]
        have k5 : IntKind.i64.wrap ((mid : Int) + 1) = ((mid + 1 : Nat) : Int) := by rw [wrap64 (by omega) (by omega)]; omega
        have hsE : E.size = d.size := by rw [hsz, z3]
        have atE : (HD.set lo (arrO g E))[lo]? = some (arrO g E) := hgetS atD_l
        by_cases clr : mid - a1 < b1 - mid
        · have dlr : decide (mid - a1 < b1 - mid) = true := decide_eq_true clr
          rw [if_pos clr] at hpd
          simp only [go_sem, simprocAttr, k1, k2, k3, k4, dlr]
          refine kont_of_hx cx_ok hb 200 ?_
          simp only [go_sem, simprocAttr, k1, k2, k3, k4, dlr]
          refine kont_callH hb fn102 rfl ?_ (hsE ▸ IH _ lo g E atE a1 mid R.lim (by omega) (by omega) (by omega) (by omega) (by omega)) rfl fun d h hR => ?_
          · simp only [go_sem, simprocAttr, k5]
          obtain ⟨rfl, t6, rfl⟩ := hR
          refine kont_of_hx cx_ok hb 200 ?_
          simp only [go_sem, simprocAttr, k5]
          have hs6 := pdq_sz _ E a1 mid R.lim true true (Nat.le_refl _)
          refine ⟨by omega, _, ?_, Sort.pdq ltI E a1 mid R.lim true true, mid + 1, b1, R.lim, decide ((b1 - a1) / 8 ≤ mid - a1), already, t5 ++ t6, by rw [hs6, hsE], by omega, by omega, by omega, by omega, hpd, rfl⟩
          rw [List.set_set, ← hHD, setT ho_l, List.append_assoc]
          exact Weak.frame (by simp only [go_sem, simprocAttr])
        · have dlr : decide (mid - a1 < b1 - mid) = false := decide_eq_false clr
          rw [if_neg clr] at hpd
          simp only [go_sem, simprocAttr, k1, k2, k3, k4, dlr]
          refine kont_of_hx cx_ok hb 200 ?_
          simp only [go_sem, simprocAttr, k1, k2, k3, k4, k5, dlr]
          refine kont_callH hb fn102 rfl ?_ (hsE ▸ IH _ lo g E atE (mid + 1) b1 R.lim (by omega) (by omega) (by omega) (by omega) (by omega)) rfl fun d h hR => ?_
          · simp only [go_sem, simprocAttr]
          obtain ⟨rfl, t6, rfl⟩ := hR
          refine kont_of_hx cx_ok hb 200 ?_
          simp only [go_sem, simprocAttr]
          have hs6 := pdq_sz _ E (mid + 1) b1 R.lim true true (Nat.le_refl _)
          refine ⟨by omega, _, ?_, Sort.pdq ltI E (mid + 1) b1 R.lim true true, a1, mid, R.lim, decide ((b1 - a1) / 8 ≤ b1 - mid), already, t5 ++ t6, by rw [hs6, hsE], by omega, by omega, by omega, by omega, hpd, rfl⟩
          rw [List.set_set, ← hHD, setT ho_l, List.append_assoc]
          exact Weak.frame (by simp only [go_sem, simprocAttr])
      · rw [hB, if_pos rfl] at hpd
        have hr := partEq_rng DA a1 b1 R.pivot (by omega)
        have hsz := partEq_sz DA a1 b1 R.pivot
        rw [if_pos hr] at hpd
        refine kont_of_hx cx_ok hb 200 ?_
        simp only [go_sem, simprocAttr, hgetA, hgetL, hgetLk, hsetA, hsetL, hsetLk, List.length_append, List.length_set, List.append_assoc, List.set_set, hB]
        refine kont_callH hb fn128 rfl ?_ (z3 ▸ partEq_ok atD a1 b1 R.pivot (by omega) (by omega) hpv.1 hpv.2 (by omega)) rfl fun d h hR => ?_
        · simp only [go_sem, simprocAttr]
        obtain ⟨rfl, rfl⟩ := hR
        refine kont_of_hx cx_ok hb 200 ?_
        simp only [go_sem, simprocAttr]
        refine ⟨by omega, _, ?_, (Sort.partitionEqual ltI DA a1 b1 R.pivot).2, (Sort.partitionEqual ltI DA a1 b1 R.pivot).1, b1, R.lim, wb, wp, t5, by omega, by omega, by omega, by omega, by omega, hpd, rfl⟩
        rw [← hHD, setT ho_l]
        exact Weak.frame (by simp only [go_sem, simprocAttr])
theorem pdq_ok : ∀ n, PdqOk n
  | 0 => fun _ _ _ _ _ _ _ _ _ _ _ _ hn => absurd hn (Nat.not_lt_zero _)
  | n + 1 => fun h lo g d ho a b l hab hb hl hz hn => pdq_step n (pdq_ok n) ho a b l hab hb hl hz hn
end Go.Fg.X
/- Words of 64 bits sorted, and freed of repetitions: walked. Conditions: fewer than 2^29 of them. -/
namespace Go.Fg.X
open Go.Proofs Go.Fg
set_option maxRecDepth 100000
set_option maxHeartbeats 8000000
set_option linter.unusedSimpArgs false
set_option linter.unusedVariables false
theorem bitsLen_lt (n : Nat) (h : n < 1000000000) : Sort.bitsLen n ≤ 30 := (Sort.bitsLen_le_iff n 30).2 (by omega)
theorem sortU_ok {h : List Ob} {lo g : Nat} {d : Array Int} (ho : h[lo]? = some (arrO g d)) (hz : d.size < 1000000000) :
    MFn Tryz.prog 80 h [.ref lo g 0 d.size] (fun dd h' => dd = .tup [] ∧ ∃ t, h' = h.set lo (arrO g (Sort.sort ltI d)) ++ t) := by
  have hb' := bitsLen_lt _ hz
  have w0 : IntKind.u64.wrap (d.size : Int) = d.size := by rw [IntKind.wrap_u64]; omega
  refine MFn_hx cx_ok 200 Tryz.func80 rfl Tryz.ntmps80 Tryz.results80 rfl fun base w pl hb => ?_
  have ho_l := hlt ho
  simp only [go_sem, simprocAttr, hgetA, hgetL, hgetLk, hsetA, hsetL, hsetLk, List.length_append, List.length_set, List.append_assoc, List.set_set, ho, ho_l, w0]
  refine kont_call hb fn99 rfl ?_ (len_ok d.size (by omega)) (Ret.flat rfl) rfl fun d h hR => ?_
  · simp only [go_sem, simprocAttr]
  obtain ⟨rfl, rfl⟩ := hR
  refine kont_of_hx cx_ok hb 200 ?_
  simp only [go_sem, simprocAttr]
  refine kont_callH hb fn102 rfl ?_ (pdq_ok (d.size + 1) h lo g d ho 0 d.size (Sort.bitsLen d.size) (Nat.zero_le _) (Nat.le_refl _) (by omega) hz (by omega)) rfl fun d h hR => ?_
  · simp only [go_sem, simprocAttr]
  obtain ⟨rfl, t, rfl⟩ := hR
  refine kont_of_hx cx_ok hb 200 ?_
  simp only [go_sem, simprocAttr]
  exact ⟨t, rfl⟩
def cN (f : Nat → Int) : Nat → List Int
  | 0 => []
  | n + 1 => if n ≠ 0 ∧ f n = f (n - 1) then cN f n else cN f n ++ [f n]
theorem cN_le (f : Nat → Int) : ∀ n, (cN f n).length ≤ n
  | 0 => Nat.le_refl _
  | n + 1 => by
    have := cN_le f n
    rw [cN]
    split
    · omega
    · simp; omega
theorem cN_mem (f : Nat → Int) (x : Int) : ∀ n, x ∈ cN f n ↔ ∃ i, i < n ∧ f i = x
  | 0 => by simp [cN]
  | n + 1 => by
    have ih := cN_mem f x n
    rw [cN]
    split
    · rename_i c
      rw [ih]
      constructor
      · rintro ⟨i, h1, h2⟩; exact ⟨i, by omega, h2⟩
      · rintro ⟨i, h1, h2⟩
        by_cases e : i = n
        · subst e; exact ⟨i - 1, by omega, by rw [← c.2]; exact h2⟩
        · exact ⟨i, by omega, h2⟩
    · rw [List.mem_append, ih]
      simp only [List.mem_singleton]
      constructor
      · rintro (⟨i, h1, h2⟩ | h)
        · exact ⟨i, by omega, h2⟩
        · exact ⟨n, by omega, h.symm⟩
      · rintro ⟨i, h1, h2⟩
        by_cases e : i = n
        · subst e; exact Or.inr h2.symm
        · exact Or.inl ⟨i, by omega, h2⟩
theorem cN_full (f : Nat → Int) : ∀ n, (cN f n).length = n → ∀ i, i < n → (cN f n).getD i 0 = f i
  | 0, _, i, hi => absurd hi (Nat.not_lt_zero _)
  | n + 1, h, i, hi => by
    have hle := cN_le f n
    rw [cN] at h ⊢
    split at h
    · omega
    · rename_i c
      rw [if_neg c]
      simp at h
      by_cases e : i = n
      · subst e
        rw [List.getD_eq_getElem?_getD, List.getElem?_append_right (by omega), h, Nat.sub_self]
        rfl
      · rw [List.getD_eq_getElem?_getD, List.getElem?_append_left (by omega), ← List.getD_eq_getElem?_getD]
        exact cN_full f n h i (by omega)
theorem obj_put (g : Nat) (d : Array Int) (i n : Nat) (x : Int) (hn : d.size = n) (hi : i < n) :
    (⟨.arr, g, 1, n, fun k => bif k == i then [.raw (.int .u64 x)] else [.raw (.int .u64 d[k]!)]⟩ : Ob) = arrO g (d.setIfInBounds i x) := by
  subst hn
  unfold arrO
  congr 1
  · simp
  · funext k
    unfold rowA uI
    by_cases k1 : k = i
    · subst k1
      simp [hi]
    · have e1 : (k == i) = false := beq_eq_false_iff_ne.mpr k1
      rw [e1]
      by_cases k3 : k < d.size
      · simp [k1, k3, Ne.symm k1, Array.getElem_setIfInBounds]
      · simp [k1, k3]
theorem compactU_ok {h : List Ob} {lo g : Nat} {d : Array Int} (ho : h[lo]? = some (arrO g d)) (hz : d.size < 1000000000) :
    MFn Tryz.prog 81 h [.ref lo g 0 d.size] (fun dd h' => dd = .ref lo g 0 (cN (fun i => d[i]!) d.size).length ∧ ∃ row, h' = h.set lo ⟨.arr, g, 1, d.size, row⟩ ∧ (∀ i, i < (cN (fun i => d[i]!) d.size).length → row i = [uI ((cN (fun i => d[i]!) d.size).getD i 0)]) ∧ ∀ i, ∃ x, row i = [uI x]) := by
  by_cases c2 : d.size < 2
  · have e2 : decide ((d.size : Int) < 2) = true := decide_eq_true (by omega)
    have hlen : (cN (fun i => d[i]!) d.size).length = d.size := by
      have : d.size = 0 ∨ d.size = 1 := by omega
      rcases this with h0 | h0 <;> rw [h0] <;> rfl
    rw [hlen]
    refine MFn_hx cx_ok 200 Tryz.func81 rfl Tryz.ntmps81 Tryz.results81 rfl fun base w pl hb => ?_
    have ho_l := hlt ho
    simp only [go_sem, simprocAttr, hgetA, hgetL, hgetLk, hsetA, hsetL, hsetLk, List.length_append, List.length_set, List.append_assoc, List.set_set, ho, ho_l, e2]
    exact ⟨rowA d, (setU_same ho).symm, fun i hi => by rw [cN_full _ _ hlen i hi]; rfl, fun i => ⟨_, rfl⟩⟩
  · have e2 : decide ((d.size : Int) < 2) = false := decide_eq_false (by omega)
    refine MFn_hx cx_ok 200 Tryz.func81 rfl Tryz.ntmps81 Tryz.results81 rfl fun base w pl hb => ?_
    have ho_l := hlt ho
    simp only [go_sem, simprocAttr, hgetA, hgetL, hgetLk, hsetA, hsetL, hsetLk, List.length_append, List.length_set, List.append_assoc, List.set_set, ho, ho_l, e2]
    refine kont_for (fun k st => k + 1 ≤ d.size ∧ (cN (fun i => d[i]!) (k + 1)).length = k + 1 ∧ st = ⟨[(0, .ref lo g 0 d.size), (3, dint (k + 1 : Nat))], h⟩) d.size (s0 := ⟨[(0, .ref lo g 0 d.size), (3, dint (0 + 1 : Nat))], h⟩) (Weak.frame (by simp only [go_sem, simprocAttr])) ⟨by omega, rfl, rfl⟩ ?_
    rintro k _ hk ⟨hk1, hcl, rfl⟩
    by_cases ck : k + 1 < d.size
    · have ek : decide (k + 1 < d.size) = true := decide_eq_true ck
      have v1 : IntKind.i64.wrap (((k + 1 : Nat) : Int) - 1) = ((k : Nat) : Int) := by rw [wrap64 (by omega) (by omega)]; omega
      have v2 : IntKind.i64.wrap (((k + 1 : Nat) : Int) + 1) = ((k + 1 + 1 : Nat) : Int) := by rw [wrap64 (by omega) (by omega)]; omega
      have p0 : k < d.size := by omega
      refine kont_of_hx cx_ok hb 200 ?_
      simp only [go_sem, simprocAttr, hgetA, hgetL, hgetLk, hsetA, hsetL, hsetLk, List.length_append, List.length_set, List.append_assoc, List.set_set, ho, ho_l, ek]
      refine kont_hax cx_ok hb 200 mixed [(0, true), (1, true), (2, true), (3, true), (4, true), (5, true), (6, true), (7, true), (8, true), (9, true)] (by kernel_rfl) (by kernel_rfl) ?_
      simp only [go_sem, simprocAttr, hgetA, hgetL, hgetLk, hsetA, hsetL, hsetLk, List.length_append, List.length_set, List.append_assoc, List.set_set, ho, ho_l, v1, ck, p0]
      by_cases ceq : d[k + 1]! = d[k]!
      · have eq1 : (d[k + 1]! == d[k]!) = true := beq_iff_eq.mpr ceq
        have hcs : (cN (fun i => d[i]!) (k + 1 + 1)).length = k + 1 := by
          rw [cN, if_pos ⟨by omega, by simpa using ceq⟩, hcl]
        have q0 : k + 1 ≤ d.size := by omega
        generalize hN : d.size - (k + 1) = N
        have v3 : ((d.size : Int) - ((k + 1 : Nat) : Int)).toNat = N := by omega
        simp only [go_sem, simprocAttr, eq1, q0, hN, hgetA, hgetL, hgetLk, hsetA, hsetL, hsetLk, List.length_append, List.length_set, List.append_assoc, List.set_set, ho, ho_l, v3]
        refine kont_for (fun m st => ∃ (d1 : Array Int), d1.size = d.size ∧ m + 1 ≤ N ∧ (cN (fun i => d[i]!) (k + 1 + (m + 1))).length ≤ k + 1 + m ∧ (∀ i, i < (cN (fun i => d[i]!) (k + 1 + (m + 1))).length → d1[i]! = (cN (fun i => d[i]!) (k + 1 + (m + 1))).getD i 0) ∧ (∀ j, (cN (fun i => d[i]!) (k + 1 + (m + 1))).length ≤ j → d1[j]! = d[j]!) ∧ st = ⟨[(0, .ref lo g 0 d.size), (3, dint (cN (fun i => d[i]!) (k + 1 + (m + 1))).length), (4, .ref lo g (k + 1) N), (5, dint (m + 1 : Nat))], h.set lo (arrO g d1)⟩) N (s0 := ⟨[(0, .ref lo g 0 d.size), (3, dint (cN (fun i => d[i]!) (k + 1 + (0 + 1))).length), (4, .ref lo g (k + 1) N), (5, dint (0 + 1 : Nat))], h.set lo (arrO g d)⟩) ?_ ⟨d, rfl, by omega, Nat.le_of_eq hcs, fun i hi => ?_, fun j hj => rfl, rfl⟩ ?_
        · rw [setU_same ho, hcs]
          exact Weak.frame (by simp only [go_sem, simprocAttr])
        · rw [cN, if_pos ⟨by omega, by simpa using ceq⟩] at hi ⊢
          exact (cN_full _ _ hcl i (by omega)).symm
        rintro m _ hm ⟨d1, hs1, hmN, hkl, hpre, hpost, rfl⟩
        have hl1 := arr_at (g := g) (d := d1) ho_l
        have cstep : cN (fun i => d[i]!) (k + 1 + (m + 1 + 1)) = if d[k + 1 + (m + 1)]! = d[k + 1 + m]! then cN (fun i => d[i]!) (k + 1 + (m + 1)) else cN (fun i => d[i]!) (k + 1 + (m + 1)) ++ [d[k + 1 + (m + 1)]!] := by
          rw [show k + 1 + (m + 1 + 1) = (k + 1 + (m + 1)) + 1 by omega, cN]
          simp
        generalize hC : cN (fun i => d[i]!) (k + 1 + (m + 1)) = C at *
        generalize hH : h.set lo (arrO g d1) = H at hl1
        have hl1_l := hlt hl1
        by_cases cm : m + 1 < N
        · have em : decide (m + 1 < N) = true := decide_eq_true cm
          have r1 := hpost (k + 1 + (m + 1)) (by omega)
          have r2 := hpost (k + 1 + m) (by omega)
          have u1 : k + 1 + (m + 1) < d.size := by omega
          have u2 : k + 1 + m < d.size := by omega
          have u3 : m < N := by omega
          have w1 : IntKind.i64.wrap (((m + 1 : Nat) : Int) - 1) = (m : Int) := by rw [wrap64 (by omega) (by omega)]; omega
          have w2 : IntKind.i64.wrap (((m + 1 : Nat) : Int) + 1) = ((m + 1 + 1 : Nat) : Int) := by rw [wrap64 (by omega) (by omega)]; omega
          have w3 : IntKind.i64.wrap ((C.length : Int) + 1) = ((C.length + 1 : Nat) : Int) := by rw [wrap64 (by omega) (by omega)]; omega
          refine kont_of_hx cx_ok hb 200 ?_
          simp only [go_sem, simprocAttr, hgetA, hgetL, hgetLk, hsetA, hsetL, hsetLk, List.length_append, List.length_set, List.append_assoc, List.set_set, hl1, hl1_l, em]
          refine kont_hax cx_ok hb 200 mixed [(0, true), (1, true), (2, true), (3, true), (4, true), (5, true), (6, true), (7, true), (8, true), (9, true)] (by kernel_rfl) (by kernel_rfl) ?_
          simp only [go_sem, simprocAttr, hgetA, hgetL, hgetLk, hsetA, hsetL, hsetLk, List.length_append, List.length_set, List.append_assoc, List.set_set, hl1, hl1_l, hs1, w1, cm, u1, u2, u3, r1, r2]
          by_cases cq : d[k + 1 + (m + 1)]! = d[k + 1 + m]!
          · have nq : (d[k + 1 + (m + 1)]! != d[k + 1 + m]!) = false := by rw [cq]; exact bne_self_eq_false _
            rw [if_pos cq] at cstep
            simp only [go_sem, simprocAttr, nq, w2]
            rw [cstep]
            refine ⟨by omega, _, ?_, d1, hs1, by omega, by omega, hpre, hpost, rfl⟩
            rw [← hH]
            exact Weak.frame (by simp only [go_sem, simprocAttr])
          · have nq : (d[k + 1 + (m + 1)]! != d[k + 1 + m]!) = true := bne_iff_ne.mpr cq
            have u4 : C.length < d.size := by omega
            rw [if_neg cq] at cstep
            simp only [go_sem, simprocAttr, nq, w2, w3, hgetA, hgetL, hgetLk, hsetA, hsetL, hsetLk, List.length_append, List.length_set, List.append_assoc, List.set_set, hl1, hl1_l, hs1, u1, cm, u4, r1]
            rw [obj_put g d1 _ _ _ hs1 u4, cstep]
            refine ⟨by omega, _, ?_, d1.setIfInBounds C.length d[k + 1 + (m + 1)]!, by simp; exact hs1, by omega, by simp; omega, fun i hi => ?_, fun j hj => ?_, rfl⟩
            · rw [← hH, List.set_set, List.length_append, List.length_singleton]
              exact Weak.frame (by simp only [go_sem, simprocAttr])
            · simp only [List.length_append, List.length_singleton] at hi
              by_cases e : i = C.length
              · subst e
                rw [List.getD_eq_getElem?_getD, List.getElem?_append_right (Nat.le_refl _), Nat.sub_self]
                simp [hs1, u4]
              · rw [List.getD_eq_getElem?_getD, List.getElem?_append_left (by omega), ← List.getD_eq_getElem?_getD, ← hpre i (by omega)]
                simp [Ne.symm e, Array.getElem!_eq_getD, Array.getD_eq_getD_getElem?, Array.getElem?_setIfInBounds]
            · simp only [List.length_append, List.length_singleton] at hj
              rw [← hpost j (by omega)]
              simp [show C.length ≠ j by omega, Array.getElem!_eq_getD, Array.getD_eq_getD_getElem?, Array.getElem?_setIfInBounds]
        · have em : decide (m + 1 < N) = false := decide_eq_false cm
          have hNm : k + 1 + (m + 1) = d.size := by omega
          rw [hNm] at hC
          rw [hC]
          have g1 : C.length ≤ d.size := by omega
          have g2 : ((d.size : Int) - (C.length : Int)).toNat = d.size - C.length := by omega
          refine kont_of_hx cx_ok hb 200 ?_
          simp only [go_sem, simprocAttr, hgetA, hgetL, hgetLk, hsetA, hsetL, hsetLk, List.length_append, List.length_set, List.append_assoc, List.set_set, hl1, hl1_l, em]
          refine kont_of_hx cx_ok hb 200 ?_
          simp only [go_sem, simprocAttr, hgetA, hgetL, hgetLk, hsetA, hsetL, hsetLk, List.length_append, List.length_set, List.append_assoc, List.set_set, hl1, hl1_l, hs1, g1, g2]
          refine kont_clear lay_ok hb rfl hl1 rfl rfl rfl rfl (by dsimp only [arrO]; omega) rfl rfl rfl rfl ?_
          refine kont_of_hx cx_ok hb 200 ?_
          simp only [go_sem, simprocAttr, hgetA, hgetL, hgetLk, hsetA, hsetL, hsetLk, List.length_append, List.length_set, List.append_assoc, List.set_set, hgetS hl1_l, hl1_l, hs1, g1]
          refine ⟨by simp, clearRow C.length (d.size - C.length) [D.raw (.int .u64 0)] (rowA d1), ?_, fun i hi => ?_, fun i => ?_⟩
          · rw [← hH, List.set_set]
          · rw [clearRow_lt hi]
            show [uI d1[i]!] = _
            rw [hpre i hi]
            rfl
          · unfold clearRow
            cases Nat.ble C.length i && Nat.blt i (C.length + (d.size - C.length))
            · exact ⟨d1[i]!, rfl⟩
            · exact ⟨0, rfl⟩
      · have eq1 : (d[k + 1]! == d[k]!) = false := beq_eq_false_iff_ne.mpr ceq
        simp only [go_sem, simprocAttr, eq1, v2]
        refine ⟨by omega, _, ?_, by omega, ?_, rfl⟩
        · exact Weak.frame (by simp only [go_sem, simprocAttr])
        · rw [cN, if_neg (by simpa using ceq)]
          simp [hcl]
    · have ek : decide (k + 1 < d.size) = false := decide_eq_false ck
      obtain hkd : k + 1 = d.size := by omega
      rw [hkd] at hcl
      refine kont_of_hx cx_ok hb 200 ?_
      simp only [go_sem, simprocAttr, hgetA, hgetL, hgetLk, hsetA, hsetL, hsetLk, List.length_append, List.length_set, List.append_assoc, List.set_set, ho, ho_l, ek]
      refine kont_of_hx cx_ok hb 200 ?_
      simp only [go_sem, simprocAttr]
      rw [hcl]
      exact ⟨rfl, rowA d, (setU_same ho).symm, fun i hi => by rw [cN_full _ _ hcl i hi]; rfl, fun i => ⟨_, rfl⟩⟩
end Go.Fg.X
namespace Go.Fg.X
open Go.Proofs Go.Fg
set_option maxRecDepth 100000
set_option maxHeartbeats 4000000
set_option linter.unusedSimpArgs false
set_option linter.unusedVariables false
@[go_sem] def num (n : Nat) : D := .agg [u64 (n / 18446744073709551616), u64 (n % 18446744073709551616)]
theorem mul_parts (a b ah al bh bl : Nat) (ha : a = ah * 4294967296 + al) (hb : b = bh * 4294967296 + bl) (h1 : ah < 4294967296) (h2 : al < 4294967296) (h3 : bh < 4294967296) (h4 : bl < 4294967296) :
    ∃ P Q R S : Nat, P = ah * bh ∧ Q = ah * bl ∧ R = al * bh ∧ S = al * bl ∧ a * b = P * 18446744073709551616 + (Q + R) * 4294967296 + S ∧ P ≤ 18446744065119617025 ∧ Q ≤ 18446744065119617025 ∧ R ≤ 18446744065119617025 ∧ S ≤ 18446744065119617025 := by
  refine ⟨_, _, _, _, rfl, rfl, rfl, rfl, ?_, ?_, ?_, ?_, ?_⟩
  · subst ha hb
    have e : (ah * 4294967296 + al) * (bh * 4294967296 + bl) = ah * bh * (4294967296 * 4294967296) + (ah * bl + al * bh) * 4294967296 + al * bl := by
      simp only [Nat.add_mul, Nat.mul_add, Nat.mul_comm, Nat.mul_left_comm, Nat.mul_assoc]
      omega
    rw [e]
  all_goals (refine Nat.le_trans (Nat.mul_le_mul (Nat.le_sub_one_of_lt ‹_›) (Nat.le_sub_one_of_lt ‹_›)) (by decide))
theorem mul_ok (a b : Nat) (ha : a < 18446744073709551616) (hb : b < 18446744073709551616) : AFn Tryz.prog 35 [u64 a, u64 b] (Ret (num (a * b))) := by
  refine AFn_hxk 0 cx_ok 200 Tryz.func35 rfl Tryz.ntmps35 Tryz.results35 rfl fun base w hb => ?_
  simp only [go_sem, Nat.reduceAdd, Nat.reduceSub, Nat.reduceMul, Nat.reduceBEq, Nat.reduceLT, Nat.reduceLeDiff, Nat.reduceEqDiff, Int.reduceToNat, Int.reduceLE, Int.reduceLT, Int.reduceAdd, Int.reduceSub, Int.reduceNeg, Int.reduceBEq, Int.reduceBNe, Nat.reduceBNe, Nat.reduceDiv, Nat.reduceMod]
  have e32 : (2 : Nat) ^ min 32 64 = 4294967296 := rfl
  have i32 : (2 : Int) ^ min 32 64 = ((4294967296 : Nat) : Int) := rfl
  obtain ⟨P, Q, R, S, hP, hQ, hR, hS, hab, bP, bQ, bR, bS⟩ := mul_parts a b (a / 4294967296) (a % 4294967296) (b / 4294967296) (b % 4294967296) (by omega) (by omega) (by omega) (by omega) (by omega) (by omega)
  have s32 : ∀ x : Nat, ((x : Int)).fdiv ((4294967296 : Nat) : Int) = ((x / 4294967296 : Nat) : Int) := fun x => by have := shr_u x 32; rwa [show (2 : Int) ^ 32 = ((4294967296 : Nat) : Int) from rfl, show (2 : Nat) ^ 32 = 4294967296 from rfl] at this
  simp (disch := omega) only [s32, mask32, i32, wu_mul, wu_add, ← hP, ← hQ, ← hR, ← hS, hab]
  have k2 : ∀ X : Nat, X * 4294967296 % 18446744073709551616 = X % 4294967296 * 4294967296 := fun X => by omega
  rw [k2, or32 _ _ (by omega) (by omega)]
  have e1 : ((P % 18446744073709551616 + ((Q % 18446744073709551616 + S % 18446744073709551616 / 4294967296) % 18446744073709551616) / 4294967296) % 18446744073709551616 + ((R % 18446744073709551616 + ((Q % 18446744073709551616 + S % 18446744073709551616 / 4294967296) % 18446744073709551616) % 4294967296) % 18446744073709551616) / 4294967296) % 18446744073709551616 = (P * 18446744073709551616 + (Q + R) * 4294967296 + S) / 18446744073709551616 := by omega
  have e2 : ((R % 18446744073709551616 + ((Q % 18446744073709551616 + S % 18446744073709551616 / 4294967296) % 18446744073709551616) % 4294967296) % 18446744073709551616) % 4294967296 * 4294967296 + S % 18446744073709551616 % 4294967296 = (P * 18446744073709551616 + (Q + R) * 4294967296 + S) % 18446744073709551616 := by omega
  rw [e1, e2]
theorem cmp_ok (a b : Nat) (ha : a < 2 ^ 128) (hb : b < 2 ^ 128) : AFn Tryz.prog 67 [num a, num b] (Ret (dint (if a < b then -1 else if a = b then 0 else 1))) := by
  refine AFn_hxk 0 cx_ok 200 Tryz.func67 rfl Tryz.ntmps67 Tryz.results67 rfl fun base w hb => ?_
  simp only [go_sem, Nat.reduceAdd, Nat.reduceSub, Nat.reduceMul, Nat.reduceBEq, Nat.reduceLT, Nat.reduceLeDiff, Nat.reduceEqDiff, Int.reduceToNat, Int.reduceLE, Int.reduceLT, Int.reduceAdd, Int.reduceSub, Int.reduceNeg, Int.reduceBEq, Int.reduceBNe, Nat.reduceBNe, Nat.reduceDiv, Nat.reduceMod]
  refine hite_intro (fun h1 => ?_) (fun h1 => ?_)
  · simp only [go_sem, Nat.reduceAdd, Nat.reduceSub, Nat.reduceMul, Nat.reduceBEq, Nat.reduceLT, Nat.reduceLeDiff, Nat.reduceEqDiff, Int.reduceToNat, Int.reduceLE, Int.reduceLT, Int.reduceAdd, Int.reduceSub, Int.reduceNeg, Int.reduceBEq, Int.reduceBNe, Nat.reduceBNe, Nat.reduceDiv, Nat.reduceMod, h1]
    have := of_decide_eq_true h1
    rw [if_pos (by omega)]
  simp only [go_sem, Nat.reduceAdd, Nat.reduceSub, Nat.reduceMul, Nat.reduceBEq, Nat.reduceLT, Nat.reduceLeDiff, Nat.reduceEqDiff, Int.reduceToNat, Int.reduceLE, Int.reduceLT, Int.reduceAdd, Int.reduceSub, Int.reduceNeg, Int.reduceBEq, Int.reduceBNe, Nat.reduceBNe, Nat.reduceDiv, Nat.reduceMod, h1]
  have h1' := of_decide_eq_false h1
  refine hite_intro (fun h2 => ?_) (fun h2 => ?_)
  · have h2' : a / 18446744073709551616 = b / 18446744073709551616 := by have := eq_of_beq h2; omega
    simp only [go_sem, Nat.reduceAdd, Nat.reduceSub, Nat.reduceMul, Nat.reduceBEq, Nat.reduceLT, Nat.reduceLeDiff, Nat.reduceEqDiff, Int.reduceToNat, Int.reduceLE, Int.reduceLT, Int.reduceAdd, Int.reduceSub, Int.reduceNeg, Int.reduceBEq, Int.reduceBNe, Nat.reduceBNe, Nat.reduceDiv, Nat.reduceMod, h2]
    refine hite_intro (fun h3 => ?_) (fun h3 => ?_)
    · have := of_decide_eq_true h3
      simp only [go_sem, Nat.reduceAdd, Nat.reduceSub, Nat.reduceMul, Nat.reduceBEq, Nat.reduceLT, Nat.reduceLeDiff, Nat.reduceEqDiff, Int.reduceToNat, Int.reduceLE, Int.reduceLT, Int.reduceAdd, Int.reduceSub, Int.reduceNeg, Int.reduceBEq, Int.reduceBNe, Nat.reduceBNe, Nat.reduceDiv, Nat.reduceMod, h3]
      rw [if_pos (by omega)]
    · have h3' := of_decide_eq_false h3
      simp only [go_sem, Nat.reduceAdd, Nat.reduceSub, Nat.reduceMul, Nat.reduceBEq, Nat.reduceLT, Nat.reduceLeDiff, Nat.reduceEqDiff, Int.reduceToNat, Int.reduceLE, Int.reduceLT, Int.reduceAdd, Int.reduceSub, Int.reduceNeg, Int.reduceBEq, Int.reduceBNe, Nat.reduceBNe, Nat.reduceDiv, Nat.reduceMod, h3]
      refine hite_intro (fun h4 => ?_) (fun h4 => ?_)
      · simp only [go_sem, Nat.reduceAdd, Nat.reduceSub, Nat.reduceMul, Nat.reduceBEq, Nat.reduceLT, Nat.reduceLeDiff, Nat.reduceEqDiff, Int.reduceToNat, Int.reduceLE, Int.reduceLT, Int.reduceAdd, Int.reduceSub, Int.reduceNeg, Int.reduceBEq, Int.reduceBNe, Nat.reduceBNe, Nat.reduceDiv, Nat.reduceMod, h4]
        simp only [Bool.and_eq_true, beq_iff_eq] at h4
        rw [if_neg (by omega), if_pos (by omega)]
      · simp only [go_sem, Nat.reduceAdd, Nat.reduceSub, Nat.reduceMul, Nat.reduceBEq, Nat.reduceLT, Nat.reduceLeDiff, Nat.reduceEqDiff, Int.reduceToNat, Int.reduceLE, Int.reduceLT, Int.reduceAdd, Int.reduceSub, Int.reduceNeg, Int.reduceBEq, Int.reduceBNe, Nat.reduceBNe, Nat.reduceDiv, Nat.reduceMod, h4]
        simp only [Bool.and_eq_false_iff, beq_eq_false_iff_ne] at h4
        rw [if_neg (by omega), if_neg (by omega)]
  · have h2' := ne_of_beq_false h2
    simp only [go_sem, Nat.reduceAdd, Nat.reduceSub, Nat.reduceMul, Nat.reduceBEq, Nat.reduceLT, Nat.reduceLeDiff, Nat.reduceEqDiff, Int.reduceToNat, Int.reduceLE, Int.reduceLT, Int.reduceAdd, Int.reduceSub, Int.reduceNeg, Int.reduceBEq, Int.reduceBNe, Nat.reduceBNe, Nat.reduceDiv, Nat.reduceMod, h2, Bool.false_and]
    rw [if_neg (by omega), if_neg (by omega)]
theorem borrow_bits (a b c u : Nat) (ha : a < 18446744073709551616) (hb : b < 18446744073709551616) (hc : c < 2) (hl : u = (a + 18446744073709551616 - b + 18446744073709551616 - c) % 18446744073709551616) :
    (bits BinOp.or IntKind.u64 (bits BinOp.and IntKind.u64 (bits BinOp.xor IntKind.u64 (if IntKind.u64.signed = true then -1 else IntKind.u64.max) (a : Int)) (b : Int)) (bits BinOp.and IntKind.u64 (bits BinOp.xor IntKind.u64 (if IntKind.u64.signed = true then -1 else IntKind.u64.max) (bits BinOp.xor IntKind.u64 (a : Int) (b : Int))) (u : Int))).fdiv (2 ^ min 63 64) = ((if a < b + c then 1 else 0 : Nat) : Int) := by
  have em : (if IntKind.u64.signed = true then -1 else IntKind.u64.max) = ((18446744073709551615 : Nat) : Int) := by decide
  have hx : a ^^^ b < 2 ^ 64 := Nat.xor_lt_two_pow (by omega) (by omega)
  have hx1 : 18446744073709551615 ^^^ a < 2 ^ 64 := Nat.xor_lt_two_pow (by omega) (by omega)
  have hx2 : 18446744073709551615 ^^^ (a ^^^ b) < 2 ^ 64 := Nat.xor_lt_two_pow (by omega) (by omega)
  have hx3 : (18446744073709551615 ^^^ a) &&& b < 2 ^ 64 := Nat.and_lt_two_pow _ (by omega)
  have hx4 : (18446744073709551615 ^^^ (a ^^^ b)) &&& u < 2 ^ 64 := Nat.and_lt_two_pow _ (by omega)
  rw [em, u64_xor_nat a b ha hb, u64_xor_nat _ a (by decide) ha, u64_xor_nat _ _ (by decide) (by omega), u64_and_nat _ b (by omega) hb, u64_and_nat _ u (by omega) (by omega), u64_or_nat _ _ (by omega) (by omega), shr_u]
  rw [show (2 : Nat) ^ min 63 64 = 9223372036854775808 from rfl, top_or _ _ (by omega) (by omega), top_and _ _ (by omega) (by omega), top_and _ _ (by omega) (by omega), top_xor _ _ (by omega) (by omega), top_xor _ _ (by omega) (by omega), top_xor _ _ (by omega) (by omega)]
  rw [borrow_eq a b c _ _ _ u _ ha hb hc hl rfl rfl rfl rfl]
theorem sub1_ok (a b : Nat) (c : Nat) (ha : a < 18446744073709551616) (hb : b < 18446744073709551616) (hc : c < 2) : AFn Tryz.prog 96 [u64 a, u64 b, u64 c] (Ret (.tup [u64 ((a + 18446744073709551616 - b + 18446744073709551616 - c) % 18446744073709551616), u64 (if a < b + c then 1 else 0)])) := by
  refine AFn_hxk 0 cx_ok 200 Tryz.func96 rfl Tryz.ntmps96 Tryz.results96 rfl fun base w hb => ?_
  simp only [go_sem, Nat.reduceAdd, Nat.reduceSub, Nat.reduceMul, Nat.reduceBEq, Nat.reduceLT, Nat.reduceLeDiff, Nat.reduceEqDiff, Int.reduceToNat, Int.reduceLE, Int.reduceLT, Int.reduceAdd, Int.reduceSub, Int.reduceNeg, Int.reduceBEq, Int.reduceBNe, Nat.reduceBNe, Nat.reduceDiv, Nat.reduceMod]
  have h2 : IntKind.u64.wrap (IntKind.u64.wrap ((a : Int) - (b : Int)) - (c : Int)) = (((a + 18446744073709551616 - b + 18446744073709551616 - c) % 18446744073709551616 : Nat) : Int) := by
    rw [wu_sub a b (by omega), wu_sub _ c (by omega)]; omega
  rw [h2, borrow_bits a b c _ ha ‹_› hc rfl]
theorem sub_ok (a b : Nat) (ha : a < 2 ^ 128) (hb : b < 2 ^ 128) : AFn Tryz.prog 69 [num a, num b] (Ret (.tup [num ((a + 2 ^ 128 - b) % 2 ^ 128), dbool (decide (a < b))])) := by
  refine AFn_hxk 0 cx_ok 200 Tryz.func69 rfl Tryz.ntmps69 Tryz.results69 rfl fun base w hb => ?_
  simp only [go_sem, Nat.reduceAdd, Nat.reduceSub, Nat.reduceMul, Nat.reduceBEq, Nat.reduceLT, Nat.reduceLeDiff, Nat.reduceEqDiff, Int.reduceToNat, Int.reduceLE, Int.reduceLT, Int.reduceAdd, Int.reduceSub, Int.reduceNeg, Int.reduceBEq, Int.reduceBNe, Nat.reduceBNe, Nat.reduceDiv, Nat.reduceMod]
  refine kont_call hb fn96 rfl ?_ (sub1_ok (a % 18446744073709551616) (b % 18446744073709551616) 0 (by omega) (by omega) (by omega)) (Ret.flat rfl) rfl fun d h hR => ?_
  · simp only [go_sem, Nat.reduceAdd, Nat.reduceSub, Nat.reduceMul, Nat.reduceBEq, Nat.reduceLT, Nat.reduceLeDiff, Nat.reduceEqDiff, Int.reduceToNat, Int.reduceLE, Int.reduceLT, Int.reduceAdd, Int.reduceSub, Int.reduceNeg, Int.reduceBEq, Int.reduceBNe, Nat.reduceBNe, Nat.reduceDiv, Nat.reduceMod]
  obtain ⟨rfl, rfl⟩ := hR
  refine kont_of_hx cx_ok hb 200 ?_
  simp only [go_sem, Nat.reduceAdd, Nat.reduceSub, Nat.reduceMul, Nat.reduceBEq, Nat.reduceLT, Nat.reduceLeDiff, Nat.reduceEqDiff, Int.reduceToNat, Int.reduceLE, Int.reduceLT, Int.reduceAdd, Int.reduceSub, Int.reduceNeg, Int.reduceBEq, Int.reduceBNe, Nat.reduceBNe, Nat.reduceDiv, Nat.reduceMod]
  refine kont_call hb fn96 rfl ?_ (sub1_ok (a / 18446744073709551616) (b / 18446744073709551616) (if a % 18446744073709551616 < b % 18446744073709551616 + 0 then 1 else 0) (by omega) (by omega) (by split <;> omega)) (Ret.flat rfl) rfl fun d h hR => ?_
  · simp only [go_sem, Nat.reduceAdd, Nat.reduceSub, Nat.reduceMul, Nat.reduceBEq, Nat.reduceLT, Nat.reduceLeDiff, Nat.reduceEqDiff, Int.reduceToNat, Int.reduceLE, Int.reduceLT, Int.reduceAdd, Int.reduceSub, Int.reduceNeg, Int.reduceBEq, Int.reduceBNe, Nat.reduceBNe, Nat.reduceDiv, Nat.reduceMod]
  obtain ⟨rfl, rfl⟩ := hR
  refine kont_of_hx cx_ok hb 200 ?_
  simp only [go_sem, Nat.reduceAdd, Nat.reduceSub, Nat.reduceMul, Nat.reduceBEq, Nat.reduceLT, Nat.reduceLeDiff, Nat.reduceEqDiff, Int.reduceToNat, Int.reduceLE, Int.reduceLT, Int.reduceAdd, Int.reduceSub, Int.reduceNeg, Int.reduceBEq, Int.reduceBNe, Nat.reduceBNe, Nat.reduceDiv, Nat.reduceMod]
  have e1 : ∀ x : Nat, (((if x = 1 then (1 : Nat) else 0 : Nat) : Int) != 0) = decide (x = 1) := fun x => by by_cases h : x = 1 <;> simp [h]
  have e2 : (((if a / 18446744073709551616 < b / 18446744073709551616 + if a % 18446744073709551616 < b % 18446744073709551616 then 1 else 0 then 1 else 0 : Nat) : Int) != 0) = decide (a < b) := by
    by_cases h1 : a % 18446744073709551616 < b % 18446744073709551616
    · rw [if_pos h1]
      by_cases h2 : a / 18446744073709551616 < b / 18446744073709551616 + 1
      · rw [if_pos h2]; simp; omega
      · rw [if_neg h2]; simp; omega
    · rw [if_neg h1]
      by_cases h2 : a / 18446744073709551616 < b / 18446744073709551616 + 0
      · rw [if_pos h2]; simp; omega
      · rw [if_neg h2]; simp; omega
  have e3 : (a / 18446744073709551616 + 18446744073709551616 - b / 18446744073709551616 + 18446744073709551616 - if a % 18446744073709551616 < b % 18446744073709551616 then 1 else 0) % 18446744073709551616 = (a + 2 ^ 128 - b) % 2 ^ 128 / 18446744073709551616 := by
    split <;> omega
  have e4 : (a % 18446744073709551616 + 18446744073709551616 - b % 18446744073709551616 + 18446744073709551616 - 0) % 18446744073709551616 = (a + 2 ^ 128 - b) % 2 ^ 128 % 18446744073709551616 := by omega
  rw [e2, e3, e4]
theorem carry_bits (a b c u : Nat) (ha : a < 18446744073709551616) (hb : b < 18446744073709551616) (hc : c < 2) (hl : u = (a + b + c) % 18446744073709551616) :
    (bits BinOp.or IntKind.u64 (bits BinOp.and IntKind.u64 (a : Int) (b : Int)) (bits BinOp.andNot IntKind.u64 (bits BinOp.or IntKind.u64 (a : Int) (b : Int)) (u : Int))).fdiv (2 ^ min 63 64) = ((if 18446744073709551616 ≤ a + b + c then 1 else 0 : Nat) : Int) := by
  have hx : a ||| b < 2 ^ 64 := Nat.or_lt_two_pow (by omega) (by omega)
  have hx3 : a &&& b < 2 ^ 64 := Nat.and_lt_two_pow _ (by omega)
  have hx4 : (a ||| b) &&& (18446744073709551615 - u) < 2 ^ 64 := Nat.and_lt_two_pow _ (by omega)
  rw [u64_and_nat a b ha hb, u64_or_nat a b ha hb, u64_andNot_nat _ u (by omega) (by omega), u64_or_nat _ _ (by omega) (by omega), shr_u]
  rw [show (2 : Nat) ^ min 63 64 = 9223372036854775808 from rfl, top_or _ _ (by omega) (by omega), top_and _ _ (by omega) (by omega), top_and _ _ (by omega) (by omega), top_or _ _ (by omega) (by omega)]
  rw [show (18446744073709551615 - u) / 9223372036854775808 = 1 - u / 9223372036854775808 by omega]
  rw [carry_eq a b c _ _ _ u _ ha hb hc hl rfl rfl rfl rfl]
theorem add1_ok (a b : Nat) (c : Nat) (ha : a < 18446744073709551616) (hb : b < 18446744073709551616) (hc : c < 2) : AFn Tryz.prog 108 [u64 a, u64 b, u64 c] (Ret (.tup [u64 ((a + b + c) % 18446744073709551616), u64 (if 18446744073709551616 ≤ a + b + c then 1 else 0)])) := by
  refine AFn_hxk 0 cx_ok 200 Tryz.func108 rfl Tryz.ntmps108 Tryz.results108 rfl fun base w hb => ?_
  simp only [go_sem, Nat.reduceAdd, Nat.reduceSub, Nat.reduceMul, Nat.reduceBEq, Nat.reduceLT, Nat.reduceLeDiff, Nat.reduceEqDiff, Int.reduceToNat, Int.reduceLE, Int.reduceLT, Int.reduceAdd, Int.reduceSub, Int.reduceNeg, Int.reduceBEq, Int.reduceBNe, Nat.reduceBNe, Nat.reduceDiv, Nat.reduceMod]
  have h2 : IntKind.u64.wrap (IntKind.u64.wrap ((a : Int) + (b : Int)) + (c : Int)) = (((a + b + c) % 18446744073709551616 : Nat) : Int) := by
    rw [wu_add, wu_add]; omega
  rw [h2, carry_bits a b c _ ha ‹_› hc rfl]
theorem add_ok (a b : Nat) (ha : a < 2 ^ 128) (hb : b < 2 ^ 128) : AFn Tryz.prog 94 [num a, num b] (Ret (.tup [num ((a + b) % 2 ^ 128), dbool (decide (2 ^ 128 ≤ a + b))])) := by
  refine AFn_hxk 0 cx_ok 200 Tryz.func94 rfl Tryz.ntmps94 Tryz.results94 rfl fun base w hb => ?_
  simp only [go_sem, Nat.reduceAdd, Nat.reduceSub, Nat.reduceMul, Nat.reduceBEq, Nat.reduceLT, Nat.reduceLeDiff, Nat.reduceEqDiff, Int.reduceToNat, Int.reduceLE, Int.reduceLT, Int.reduceAdd, Int.reduceSub, Int.reduceNeg, Int.reduceBEq, Int.reduceBNe, Nat.reduceBNe, Nat.reduceDiv, Nat.reduceMod]
  refine kont_call hb fn108 rfl ?_ (add1_ok (a % 18446744073709551616) (b % 18446744073709551616) 0 (by omega) (by omega) (by omega)) (Ret.flat rfl) rfl fun d h hR => ?_
  · simp only [go_sem, Nat.reduceAdd, Nat.reduceSub, Nat.reduceMul, Nat.reduceBEq, Nat.reduceLT, Nat.reduceLeDiff, Nat.reduceEqDiff, Int.reduceToNat, Int.reduceLE, Int.reduceLT, Int.reduceAdd, Int.reduceSub, Int.reduceNeg, Int.reduceBEq, Int.reduceBNe, Nat.reduceBNe, Nat.reduceDiv, Nat.reduceMod]
  obtain ⟨rfl, rfl⟩ := hR
  refine kont_of_hx cx_ok hb 200 ?_
  simp only [go_sem, Nat.reduceAdd, Nat.reduceSub, Nat.reduceMul, Nat.reduceBEq, Nat.reduceLT, Nat.reduceLeDiff, Nat.reduceEqDiff, Int.reduceToNat, Int.reduceLE, Int.reduceLT, Int.reduceAdd, Int.reduceSub, Int.reduceNeg, Int.reduceBEq, Int.reduceBNe, Nat.reduceBNe, Nat.reduceDiv, Nat.reduceMod]
  refine kont_call hb fn108 rfl ?_ (add1_ok (a / 18446744073709551616) (b / 18446744073709551616) (if 18446744073709551616 ≤ a % 18446744073709551616 + b % 18446744073709551616 + 0 then 1 else 0) (by omega) (by omega) (by split <;> omega)) (Ret.flat rfl) rfl fun d h hR => ?_
  · simp only [go_sem, Nat.reduceAdd, Nat.reduceSub, Nat.reduceMul, Nat.reduceBEq, Nat.reduceLT, Nat.reduceLeDiff, Nat.reduceEqDiff, Int.reduceToNat, Int.reduceLE, Int.reduceLT, Int.reduceAdd, Int.reduceSub, Int.reduceNeg, Int.reduceBEq, Int.reduceBNe, Nat.reduceBNe, Nat.reduceDiv, Nat.reduceMod]
  obtain ⟨rfl, rfl⟩ := hR
  refine kont_of_hx cx_ok hb 200 ?_
  simp only [go_sem, Nat.reduceAdd, Nat.reduceSub, Nat.reduceMul, Nat.reduceBEq, Nat.reduceLT, Nat.reduceLeDiff, Nat.reduceEqDiff, Int.reduceToNat, Int.reduceLE, Int.reduceLT, Int.reduceAdd, Int.reduceSub, Int.reduceNeg, Int.reduceBEq, Int.reduceBNe, Nat.reduceBNe, Nat.reduceDiv, Nat.reduceMod]
  have e2 : (((if 18446744073709551616 ≤ a / 18446744073709551616 + b / 18446744073709551616 + (if 18446744073709551616 ≤ a % 18446744073709551616 + b % 18446744073709551616 then 1 else 0) then 1 else 0 : Nat) : Int) != 0) = decide (2 ^ 128 ≤ a + b) := by
    by_cases h1 : 18446744073709551616 ≤ a % 18446744073709551616 + b % 18446744073709551616
    · rw [if_pos h1]
      by_cases h2 : 18446744073709551616 ≤ a / 18446744073709551616 + b / 18446744073709551616 + 1
      · rw [if_pos h2]; simp; omega
      · rw [if_neg h2]; simp; omega
    · rw [if_neg h1]
      by_cases h2 : 18446744073709551616 ≤ a / 18446744073709551616 + b / 18446744073709551616 + 0
      · rw [if_pos h2]; simp; omega
      · rw [if_neg h2]; simp; omega
  have e3 : (a / 18446744073709551616 + b / 18446744073709551616 + if 18446744073709551616 ≤ a % 18446744073709551616 + b % 18446744073709551616 then 1 else 0) % 18446744073709551616 = (a + b) % 2 ^ 128 / 18446744073709551616 := by
    split <;> omega
  have e4 : (a % 18446744073709551616 + b % 18446744073709551616) % 18446744073709551616 = (a + b) % 2 ^ 128 % 18446744073709551616 := by omega

  rw [e2, e3, e4]
theorem of_ok (a : Nat) (ha : a < 18446744073709551616) : AFn Tryz.prog 79 [u64 a] (Ret (num a)) := by
  refine AFn_hxk 0 cx_ok 200 Tryz.func79 rfl Tryz.ntmps79 Tryz.results79 rfl fun base w hb => ?_
  simp only [go_sem, Nat.reduceAdd, Nat.reduceSub, Nat.reduceMul, Nat.reduceBEq, Nat.reduceLT, Nat.reduceLeDiff, Nat.reduceEqDiff, Int.reduceToNat, Int.reduceLE, Int.reduceLT, Int.reduceAdd, Int.reduceSub, Int.reduceNeg, Int.reduceBEq, Int.reduceBNe, Nat.reduceBNe, Nat.reduceDiv, Nat.reduceMod]
  have e1 : a / 18446744073709551616 = 0 := by omega
  have e2 : a % 18446744073709551616 = a := by omega
  rw [e1, e2]; rfl
end Go.Fg.X
namespace Go.Fg.X
open Go.Proofs Go.Fg
set_option maxRecDepth 100000
set_option maxHeartbeats 4000000
set_option linter.unusedSimpArgs false
set_option linter.unusedVariables false
theorem or1 (x y : Nat) (hx : x < 9223372036854775808) (hy : y < 2) : bits .or .u64 ((x * 2 : Nat) : Int) (y : Int) = ((x * 2 + y : Nat) : Int) := by
  rw [u64_or_nat _ _ (by omega) (by omega), nat_join 1 _ _ (by omega) (by omega)]
theorem shr63 (x : Nat) : (x : Int).fdiv (2 ^ min 63 64) = ((x / 9223372036854775808 : Nat) : Int) := by
  have := shr_u x 63
  rwa [show (2 : Int) ^ 63 = 2 ^ min 63 64 from rfl, show (2 : Nat) ^ 63 = 9223372036854775808 from rfl] at this
theorem shl1 (x : Nat) : IntKind.u64.wrap ((x : Int) * 2 ^ min 1 64) = ((x % 9223372036854775808 * 2 : Nat) : Int) := by
  rw [show (2 : Int) ^ min 1 64 = ((2 : Nat) : Int) from rfl, wu_mul]; omega
theorem shl_r (r A : Nat) (hA : A < 2 ^ 128) : bits .or .u64 (IntKind.u64.wrap ((r : Int) * 2 ^ min 1 64)) ((A / 18446744073709551616 / 9223372036854775808 : Nat) : Int) = (((2 * r + A / 2 ^ 127) % 18446744073709551616 : Nat) : Int) := by
  rw [shl1, or1 _ _ (by omega) (by omega)]; congr 1; omega
theorem shl_hi (A : Nat) (hA : A < 2 ^ 128) : bits .or .u64 (IntKind.u64.wrap (((A / 18446744073709551616 : Nat) : Int) * 2 ^ min 1 64)) ((A % 18446744073709551616 / 9223372036854775808 : Nat) : Int) = (((A * 2 % 2 ^ 128) / 18446744073709551616 : Nat) : Int) := by
  rw [shl1, or1 _ _ (by omega) (by omega)]; congr 1; omega
theorem shl_lo (A : Nat) : IntKind.u64.wrap (((A % 18446744073709551616 : Nat) : Int) * 2 ^ min 1 64) = (((A * 2 % 2 ^ 128) % 18446744073709551616 : Nat) : Int) := by
  rw [shl1]; congr 1; omega
theorem or_one (x : Nat) : bits .or .u64 (((x * 2 % 2 ^ 128) % 18446744073709551616 : Nat) : Int) 1 = ((((x * 2 + 1) % 2 ^ 128) % 18446744073709551616 : Nat) : Int) := by
  have := or1 ((x * 2 % 2 ^ 128) % 18446744073709551616 / 2) 1 (by omega) (by omega)
  rw [show (x * 2 % 2 ^ 128) % 18446744073709551616 / 2 * 2 = (x * 2 % 2 ^ 128) % 18446744073709551616 by omega] at this
  rw [show ((1 : Nat) : Int) = 1 from rfl] at this
  rw [this]; congr 1; omega
theorem bnT {n : Nat} (h : n ≠ 0) : ((n : Int) != 0) = true := by simp [h]
theorem bnF {n : Nat} (h : n = 0) : ((n : Int) != 0) = false := by simp [h]
theorem top_step (a k : Nat) (hk : k < 128) : a / 2 ^ (128 - (k + 1)) = 2 * (a / 2 ^ (128 - k)) + (a * 2 ^ k % 2 ^ 128) / 2 ^ 127 := by
  obtain ⟨m, hm⟩ : ∃ m, m = 127 - k := ⟨_, rfl⟩
  have e1 : 128 - (k + 1) = m := by omega
  have e2 : 128 - k = m + 1 := by omega
  have e3 : (2 : Nat) ^ 128 = 2 ^ (m + 1) * 2 ^ k := by rw [← Nat.pow_add]; congr 1; omega
  have e4 : (2 : Nat) ^ 127 = 2 ^ m * 2 ^ k := by rw [← Nat.pow_add]; congr 1; omega
  rw [e1, e2, e3, e4, Nat.mul_mod_mul_right, Nat.mul_div_mul_right _ _ (Nat.two_pow_pos k), Nat.pow_succ]
  have hM := Nat.two_pow_pos m
  generalize 2 ^ m = M at *
  have h1 := Nat.div_add_mod a (M * 2)
  have h2 : a = M * (2 * (a / (M * 2))) + a % (M * 2) := by rw [← Nat.mul_assoc]; omega
  conv => lhs; rw [h2]
  rw [Nat.mul_add_div hM]
theorem shift_step (a k : Nat) : a * 2 ^ k % 2 ^ 128 * 2 % 2 ^ 128 = a * 2 ^ (k + 1) % 2 ^ 128 := by
  have : a * 2 ^ (k + 1) = a * 2 ^ k * 2 := by rw [Nat.pow_succ, Nat.mul_assoc]
  rw [this]; omega
theorem div_step (t b β : Nat) (hb : 0 < b) (hβ : β < 2) :
    (b ≤ 2 * (t % b) + β → (2 * t + β) / b = 2 * (t / b) + 1 ∧ (2 * t + β) % b = 2 * (t % b) + β - b) ∧ (2 * (t % b) + β < b → (2 * t + β) / b = 2 * (t / b) ∧ (2 * t + β) % b = 2 * (t % b) + β) := by
  have h1 := Nat.div_add_mod t b
  have h2 := Nat.mod_lt t hb
  constructor
  · intro h
    refine (Nat.div_mod_unique hb).2 ⟨?_, by omega⟩
    rw [Nat.mul_add, Nat.mul_left_comm]
    omega
  · intro h
    refine (Nat.div_mod_unique hb).2 ⟨?_, by omega⟩
    rw [Nat.mul_left_comm]
    omega
def dA (a k : Nat) : Nat := a * 2 ^ k % 2 ^ 128
def dT (a k : Nat) : Nat := a / 2 ^ (128 - k)
theorem dT_lt (a k : Nat) (h : a < 2 ^ 128) : dT a k < 2 ^ 128 := Nat.lt_of_le_of_lt (Nat.div_le_self _ _) h
theorem dA_lt (a k : Nat) : dA a k < 2 ^ 128 := Nat.mod_lt _ (by decide)
theorem div_ok (a b : Nat) (ha : a < 2 ^ 128) (hb : b < 18446744073709551616) : AFn Tryz.prog 100 [num a, u64 b] (Ret (.tup [num (if b = 0 then 0 else a / b), u64 (if b = 0 then 0 else a % b), dint (if b = 0 then 1 else 0)])) := by
  refine AFn_hxk 0 cx_ok 200 Tryz.func100 rfl Tryz.ntmps100 Tryz.results100 rfl fun base w hb => ?_
  simp only [go_sem, Nat.reduceAdd, Nat.reduceSub, Nat.reduceMul, Nat.reduceBEq, Nat.reduceLT, Nat.reduceLeDiff, Nat.reduceEqDiff, Int.reduceToNat, Int.reduceLE, Int.reduceLT, Int.reduceAdd, Int.reduceSub, Int.reduceNeg, Int.reduceBEq, Int.reduceBNe, Nat.reduceBNe, Nat.reduceDiv, Nat.reduceMod]
  by_cases hb0 : b = 0
  · subst hb0
    simp only [go_sem, Nat.reduceAdd, Nat.reduceSub, Nat.reduceMul, Nat.reduceBEq, Nat.reduceLT, Nat.reduceLeDiff, Nat.reduceEqDiff, Int.reduceToNat, Int.reduceLE, Int.reduceLT, Int.reduceAdd, Int.reduceSub, Int.reduceNeg, Int.reduceBEq, Int.reduceBNe, Nat.reduceBNe, Nat.reduceDiv, Nat.reduceMod, if_true]
    try rfl
  have hbz := bnz hb0
  simp only [go_sem, Nat.reduceAdd, Nat.reduceSub, Nat.reduceMul, Nat.reduceBEq, Nat.reduceLT, Nat.reduceLeDiff, Nat.reduceEqDiff, Int.reduceToNat, Int.reduceLE, Int.reduceLT, Int.reduceAdd, Int.reduceSub, Int.reduceNeg, Int.reduceBEq, Int.reduceBNe, Nat.reduceBNe, Nat.reduceDiv, Nat.reduceMod, hbz]
  have i1 : dA a 0 = a := by show a * 2 ^ 0 % 2 ^ 128 = a; rw [Nat.pow_zero, Nat.mul_one]; exact Nat.mod_eq_of_lt ha
  have i2 : dT a 0 = 0 := Nat.div_eq_of_lt ha
  refine kont_forF (G := Nat) [1, 2, 4, 7] (fun k => True) (fun k γ => [(8, u64 (dT a k % b)), (13, dint k)]) (fun k γ => [⟨.one, 0, 2, 1, fun _ => [u64 (dA a k / 18446744073709551616), u64 (dA a k % 18446744073709551616)]⟩, ⟨.one, 0, 2, 1, fun _ => [u64 0, u64 0]⟩, ⟨.one, 0, 2, 1, fun _ => [u64 (dT a k / b / 18446744073709551616), u64 (dT a k / b % 18446744073709551616)]⟩]) (128) (0) rfl (Weak.to 3 (by (simp only [go_sem, Nat.reduceAdd, Nat.reduceSub, Nat.reduceMul, Nat.reduceBEq, Nat.reduceLT, Nat.reduceLeDiff, Nat.reduceEqDiff, Int.reduceToNat, Int.reduceLE, Int.reduceLT, Int.reduceAdd, Int.reduceSub, Int.reduceNeg, Int.reduceBEq, Int.reduceBNe, Nat.reduceBNe, Nat.reduceDiv, Nat.reduceMod, i1, i2, Nat.zero_div, Nat.zero_mod]) <;> simp)) trivial ?_
  intro k γ hk _
  replace hk : k ≤ 128 := hk
  refine kont_of_hx cx_ok hb 200 ?_
  simp only [go_sem, Nat.reduceAdd, Nat.reduceSub, Nat.reduceMul, Nat.reduceBEq, Nat.reduceLT, Nat.reduceLeDiff, Nat.reduceEqDiff, Int.reduceToNat, Int.reduceLE, Int.reduceLT, Int.reduceAdd, Int.reduceSub, Int.reduceNeg, Int.reduceBEq, Int.reduceBNe, Nat.reduceBNe, Nat.reduceDiv, Nat.reduceMod]
  have hwr := wrap_succ (show k < 4611686018427387904 by omega)
  first | refine hite_lt hk (fun hk1 => ?_) (fun hk1 => ?_) | refine hite_ltI hk (fun hk1 => ?_) (fun hk1 => ?_)
  · replace hk1 : k < 128 := hk1
    have hlt : decide ((k : Int) < 128) = true := by simp; omega
    have hb1 : 0 < b := by omega
    have t1 : dT a (k + 1) = 2 * dT a k + dA a k / 2 ^ 127 := top_step a k hk1
    have t2 : dA a k * 2 % 2 ^ 128 = dA a (k + 1) := shift_step a k
    have t3 := div_step (dT a k) b (dA a k / 2 ^ 127) hb1 (by have := dA_lt a k; omega)
    have t4 := Nat.mod_lt (dT a k) hb1
    have t5 := dA_lt a k
    have t6 := dT_lt a (k + 1) ha
    rw [← t1] at t3
    have t7 : dT a (k + 1) / b < 2 ^ 128 := Nat.lt_of_le_of_lt (Nat.div_le_self _ _) t6
    have t8 : dT a k / b < 2 ^ 128 := Nat.lt_of_le_of_lt (Nat.div_le_self _ _) (dT_lt a k ha)
    by_cases hge : b ≤ 2 * (dT a k % b) + dA a k / 2 ^ 127
    · obtain ⟨q1, q2⟩ := t3.1 hge
      have e1 : IntKind.u64.wrap ((((2 * (dT a k % b) + dA a k / 2 ^ 127) % 18446744073709551616 : Nat) : Int) - (b : Int)) = ((dT a (k + 1) % b : Nat) : Int) := by
        rw [wu_sub _ b (by omega), q2]; congr 1; omega
      have e2 : dT a k / b * 2 % 2 ^ 128 = dT a k / b * 2 := by omega
      have e3 : ((dT a k / b * 2 + 1) % 2 ^ 128) = dT a (k + 1) / b := by omega
      have e4 : dT a k / b * 2 % 2 ^ 128 / 18446744073709551616 = dT a (k + 1) / b / 18446744073709551616 := by omega
      by_cases ho : dT a k % b / 9223372036854775808 = 0
      · have hcmp : decide (b ≤ (2 * (dT a k % b) + dA a k / 2 ^ 127) % 18446744073709551616) = true := by simp; omega
        have hout : ((((dT a k % b / 9223372036854775808 : Nat)) : Int) != 0) = false := bnF ho
        simp only [go_sem, Nat.reduceAdd, Nat.reduceSub, Nat.reduceMul, Nat.reduceBEq, Nat.reduceLT, Nat.reduceLeDiff, Nat.reduceEqDiff, Int.reduceToNat, Int.reduceLE, Int.reduceLT, Int.reduceAdd, Int.reduceSub, Int.reduceNeg, Int.reduceBEq, Int.reduceBNe, Nat.reduceBNe, Nat.reduceDiv, Nat.reduceMod, hlt, shl_r _ _ (dA_lt a k), shl_hi _ (dA_lt a k), shl_hi _ t8, shl_lo, shr63, hout, hcmp, e1, t2, or_one, e3, e4]
        repeat (refine And.intro (by first | assumption | omega) ?_)
        refine ⟨_, Weak.to 3 (by (simp only [go_sem, Nat.reduceAdd, Nat.reduceSub, Nat.reduceMul, Nat.reduceBEq, Nat.reduceLT, Nat.reduceLeDiff, Nat.reduceEqDiff, Int.reduceToNat, Int.reduceLE, Int.reduceLT, Int.reduceAdd, Int.reduceSub, Int.reduceNeg, Int.reduceBEq, Int.reduceBNe, Nat.reduceBNe, Nat.reduceDiv, Nat.reduceMod, hwr, e1, t2, or_one, e3, e4]) <;> simp), ForS.mk (γ) (trivial)⟩
      · have hout : ((((dT a k % b / 9223372036854775808 : Nat)) : Int) != 0) = true := bnT ho
        simp only [go_sem, Nat.reduceAdd, Nat.reduceSub, Nat.reduceMul, Nat.reduceBEq, Nat.reduceLT, Nat.reduceLeDiff, Nat.reduceEqDiff, Int.reduceToNat, Int.reduceLE, Int.reduceLT, Int.reduceAdd, Int.reduceSub, Int.reduceNeg, Int.reduceBEq, Int.reduceBNe, Nat.reduceBNe, Nat.reduceDiv, Nat.reduceMod, hlt, shl_r _ _ (dA_lt a k), shl_hi _ (dA_lt a k), shl_hi _ t8, shl_lo, shr63, hout, e1, t2, or_one, e3, e4]
        repeat (refine And.intro (by first | assumption | omega) ?_)
        refine ⟨_, Weak.to 3 (by (simp only [go_sem, Nat.reduceAdd, Nat.reduceSub, Nat.reduceMul, Nat.reduceBEq, Nat.reduceLT, Nat.reduceLeDiff, Nat.reduceEqDiff, Int.reduceToNat, Int.reduceLE, Int.reduceLT, Int.reduceAdd, Int.reduceSub, Int.reduceNeg, Int.reduceBEq, Int.reduceBNe, Nat.reduceBNe, Nat.reduceDiv, Nat.reduceMod, hwr, e1, t2, or_one, e3, e4]) <;> simp), ForS.mk (γ) (trivial)⟩
    · obtain ⟨q1, q2⟩ := t3.2 (by omega)
      have e1 : (2 * (dT a k % b) + dA a k / 2 ^ 127) % 18446744073709551616 = dT a (k + 1) % b := by omega
      have e3 : dT a k / b * 2 % 2 ^ 128 = dT a (k + 1) / b := by omega
      have ho : dT a k % b / 9223372036854775808 = 0 := by omega
      have hcmp : decide (b ≤ dT a (k + 1) % b) = false := by simp; omega
      have hout := bnF ho
      simp only [go_sem, Nat.reduceAdd, Nat.reduceSub, Nat.reduceMul, Nat.reduceBEq, Nat.reduceLT, Nat.reduceLeDiff, Nat.reduceEqDiff, Int.reduceToNat, Int.reduceLE, Int.reduceLT, Int.reduceAdd, Int.reduceSub, Int.reduceNeg, Int.reduceBEq, Int.reduceBNe, Nat.reduceBNe, Nat.reduceDiv, Nat.reduceMod, hlt, shl_r _ _ (dA_lt a k), shl_hi _ (dA_lt a k), shl_hi _ t8, shl_lo, shr63, hout, e1, hcmp, t2, e3]
      repeat (refine And.intro (by first | assumption | omega) ?_)
      refine ⟨_, Weak.to 3 (by (simp only [go_sem, Nat.reduceAdd, Nat.reduceSub, Nat.reduceMul, Nat.reduceBEq, Nat.reduceLT, Nat.reduceLeDiff, Nat.reduceEqDiff, Int.reduceToNat, Int.reduceLE, Int.reduceLT, Int.reduceAdd, Int.reduceSub, Int.reduceNeg, Int.reduceBEq, Int.reduceBNe, Nat.reduceBNe, Nat.reduceDiv, Nat.reduceMod, hwr, e1, t2, e3]) <;> simp), ForS.mk (γ) (trivial)⟩
  · have hlt : decide ((k : Int) < 128) = false := by rw [hk1]; rfl
    have e1 : dT a k = a := by rw [hk1]; show a / 2 ^ 0 = a; rw [Nat.pow_zero, Nat.div_one]
    simp only [go_sem, Nat.reduceAdd, Nat.reduceSub, Nat.reduceMul, Nat.reduceBEq, Nat.reduceLT, Nat.reduceLeDiff, Nat.reduceEqDiff, Int.reduceToNat, Int.reduceLE, Int.reduceLT, Int.reduceAdd, Int.reduceSub, Int.reduceNeg, Int.reduceBEq, Int.reduceBNe, Nat.reduceBNe, Nat.reduceDiv, Nat.reduceMod, hlt, e1]
    refine kont_of_hx cx_ok hb 200 ?_
    simp only [go_sem, Nat.reduceAdd, Nat.reduceSub, Nat.reduceMul, Nat.reduceBEq, Nat.reduceLT, Nat.reduceLeDiff, Nat.reduceEqDiff, Int.reduceToNat, Int.reduceLE, Int.reduceLT, Int.reduceAdd, Int.reduceSub, Int.reduceNeg, Int.reduceBEq, Int.reduceBNe, Nat.reduceBNe, Nat.reduceDiv, Nat.reduceMod]
    rw [if_neg hb0, if_neg hb0, if_neg hb0]
end Go.Fg.X
namespace Go.Fg.X
open Go.Proofs Go.Fg
set_option maxRecDepth 100000
set_option maxHeartbeats 4000000
set_option linter.unusedSimpArgs false
set_option linter.unusedVariables false
def d0 (n : Nat) : Nat := n % 4294967296
def d1 (n : Nat) : Nat := n / 4294967296 % 4294967296
def d2 (n : Nat) : Nat := n / 18446744073709551616 % 4294967296
def d3 (n : Nat) : Nat := n / 79228162514264337593543950336 % 4294967296
theorem d0_lt (n : Nat) : d0 n < 4294967296 := Nat.mod_lt _ (by decide)
theorem d1_lt (n : Nat) : d1 n < 4294967296 := Nat.mod_lt _ (by decide)
theorem d2_lt (n : Nat) : d2 n < 4294967296 := Nat.mod_lt _ (by decide)
theorem d3_lt (n : Nat) : d3 n < 4294967296 := Nat.mod_lt _ (by decide)
@[go_sem] def dg (n : Nat) : D := .agg [u64 (d0 n), u64 (d1 n), u64 (d2 n), u64 (d3 n)]
theorem tmodB (s : Nat) : ((s : Int)).tmod 4294967296 = ((s % 4294967296 : Nat) : Int) := by
  rw [show (4294967296 : Int) = ((4294967296 : Nat) : Int) from rfl, ← Int.ofNat_tmod]
theorem tdivB (s : Nat) (h : s < 18446744073709551616) : IntKind.u64.wrap (((s : Int)).tdiv 4294967296) = ((s / 4294967296 : Nat) : Int) := by
  rw [show (4294967296 : Int) = ((4294967296 : Nat) : Int) from rfl, ← Int.ofNat_tdiv, IntKind.wrap_u64]; omega
theorem ci0 : ((0 : Nat) : Int) = 0 := rfl
theorem ci1 : ((1 : Nat) : Int) = 1 := rfl
theorem ci2 : ((2 : Nat) : Int) = 2 := rfl
theorem ci3 : ((3 : Nat) : Int) = 3 := rfl
theorem ci4 : ((4 : Nat) : Int) = 4 := rfl
theorem wi0 : IntKind.i64.wrap 0 = 0 := by decide
theorem wi1 : IntKind.i64.wrap 1 = 1 := by decide
theorem wi2 : IntKind.i64.wrap 2 = 2 := by decide
theorem wi3 : IntKind.i64.wrap 3 = 3 := by decide
theorem wi4 : IntKind.i64.wrap 4 = 4 := by decide
theorem le4 {k : Nat} (h : k ≤ 4) : k = 0 ∨ k = 1 ∨ k = 2 ∨ k = 3 ∨ k = 4 := by omega
theorem nneT {x y : Nat} (h : x ≠ y) : ((x : Int) != (y : Int)) = true := by simp; omega
theorem nneF {x y : Nat} (h : x = y) : ((x : Int) != (y : Int)) = false := by simp [h]
theorem rof_ok (v : Nat) (hv : v < 18446744073709551616) : AFn Tryz.prog 93 [u64 v] (Ret (dg v)) := by
  refine AFn_hxk 0 cx_ok 200 Tryz.func93 rfl Tryz.ntmps93 Tryz.results93 rfl fun base w hb => ?_
  simp only [go_sem, Nat.reduceAdd, Nat.reduceSub, Nat.reduceMul, Nat.reduceBEq, Nat.reduceLT, Nat.reduceLeDiff, Nat.reduceEqDiff, Int.reduceToNat, Int.reduceLE, Int.reduceLT, Int.reduceAdd, Int.reduceSub, Int.reduceNeg, Int.reduceBEq, Int.reduceBNe, Nat.reduceBNe, Nat.reduceDiv, Nat.reduceMod]
  simp only [tmodB, tdivB v hv]
  have e0 : v % 4294967296 = d0 v := rfl
  have e1 : v / 4294967296 = d1 v := by unfold d1; omega
  have e2 : d2 v = 0 := by unfold d2; omega
  have e3 : d3 v = 0 := by unfold d3; omega
  rw [e0, e1, e2, e3]
  exact ⟨by decide, by decide, rfl⟩
theorem rtwo_ok (hi lo : Nat) (h1 : hi < 18446744073709551616) (h2 : lo < 18446744073709551616) : AFn Tryz.prog 106 [u64 hi, u64 lo] (Ret (dg (hi * 18446744073709551616 + lo))) := by
  refine AFn_hxk 0 cx_ok 200 Tryz.func106 rfl Tryz.ntmps106 Tryz.results106 rfl fun base w hb => ?_
  simp only [go_sem, Nat.reduceAdd, Nat.reduceSub, Nat.reduceMul, Nat.reduceBEq, Nat.reduceLT, Nat.reduceLeDiff, Nat.reduceEqDiff, Int.reduceToNat, Int.reduceLE, Int.reduceLT, Int.reduceAdd, Int.reduceSub, Int.reduceNeg, Int.reduceBEq, Int.reduceBNe, Nat.reduceBNe, Nat.reduceDiv, Nat.reduceMod]
  simp only [tmodB, tdivB hi h1, tdivB lo h2]
  have e0 : lo % 4294967296 = d0 (hi * 18446744073709551616 + lo) := by unfold d0; omega
  have e1 : lo / 4294967296 = d1 (hi * 18446744073709551616 + lo) := by unfold d1; omega
  have e2 : hi % 4294967296 = d2 (hi * 18446744073709551616 + lo) := by unfold d2; omega
  have e3 : hi / 4294967296 = d3 (hi * 18446744073709551616 + lo) := by unfold d3; omega
  rw [e0, e1, e2, e3]
  exact ⟨by decide, by decide, by decide, by decide, rfl⟩
theorem rhi_ok (n : Nat) (h : n < 2 ^ 128) : AFn Tryz.prog 105 [dg n] (Ret (u64 (n / 18446744073709551616))) := by
  refine AFn_hxk 0 cx_ok 200 Tryz.func105 rfl Tryz.ntmps105 Tryz.results105 rfl fun base w hb => ?_
  simp only [go_sem, Nat.reduceAdd, Nat.reduceSub, Nat.reduceMul, Nat.reduceBEq, Nat.reduceLT, Nat.reduceLeDiff, Nat.reduceEqDiff, Int.reduceToNat, Int.reduceLE, Int.reduceLT, Int.reduceAdd, Int.reduceSub, Int.reduceNeg, Int.reduceBEq, Int.reduceBNe, Nat.reduceBNe, Nat.reduceDiv, Nat.reduceMod]
  rw [show (4294967296 : Int) = ((4294967296 : Nat) : Int) from rfl, wu_mul, wu_add]
  congr 3; unfold d3 d2; omega
theorem rlo_ok (n : Nat) (h : n < 2 ^ 128) : AFn Tryz.prog 104 [dg n] (Ret (u64 (n % 18446744073709551616))) := by
  refine AFn_hxk 0 cx_ok 200 Tryz.func104 rfl Tryz.ntmps104 Tryz.results104 rfl fun base w hb => ?_
  simp only [go_sem, Nat.reduceAdd, Nat.reduceSub, Nat.reduceMul, Nat.reduceBEq, Nat.reduceLT, Nat.reduceLeDiff, Nat.reduceEqDiff, Int.reduceToNat, Int.reduceLE, Int.reduceLT, Int.reduceAdd, Int.reduceSub, Int.reduceNeg, Int.reduceBEq, Int.reduceBNe, Nat.reduceBNe, Nat.reduceDiv, Nat.reduceMod]
  rw [show (4294967296 : Int) = ((4294967296 : Nat) : Int) from rfl, wu_mul, wu_add]
  congr 3; unfold d0 d1; omega
theorem less_ok (a b : Nat) (ha : a < 2 ^ 128) (hb : b < 2 ^ 128) : AFn Tryz.prog 88 [dg a, dg b] (Ret (dbool (decide (a < b)))) := by
  refine AFn_hxk 0 cx_ok 200 Tryz.func88 rfl Tryz.ntmps88 Tryz.results88 rfl fun base w hb => ?_
  simp only [go_sem, Nat.reduceAdd, Nat.reduceSub, Nat.reduceMul, Nat.reduceBEq, Nat.reduceLT, Nat.reduceLeDiff, Nat.reduceEqDiff, Int.reduceToNat, Int.reduceLE, Int.reduceLT, Int.reduceAdd, Int.reduceSub, Int.reduceNeg, Int.reduceBEq, Int.reduceBNe, Nat.reduceBNe, Nat.reduceDiv, Nat.reduceMod]
  refine kont_forF (G := Nat) [2, 3] (fun k => (1 ≤ k → d3 a = d3 b) ∧ (2 ≤ k → d2 a = d2 b) ∧ (3 ≤ k → d1 a = d1 b) ∧ (4 ≤ k → d0 a = d0 b)) (fun k γ => [(6, dint k)]) (fun k γ => [⟨.one, 0, 4, 1, fun _ => [u64 (d0 a), u64 (d1 a), u64 (d2 a), u64 (d3 a)]⟩, ⟨.one, 0, 4, 1, fun _ => [u64 (d0 b), u64 (d1 b), u64 (d2 b), u64 (d3 b)]⟩]) (4) (0) rfl (Weak.to 2 (by (simp only [go_sem, Nat.reduceAdd, Nat.reduceSub, Nat.reduceMul, Nat.reduceBEq, Nat.reduceLT, Nat.reduceLeDiff, Nat.reduceEqDiff, Int.reduceToNat, Int.reduceLE, Int.reduceLT, Int.reduceAdd, Int.reduceSub, Int.reduceNeg, Int.reduceBEq, Int.reduceBNe, Nat.reduceBNe, Nat.reduceDiv, Nat.reduceMod]) <;> simp)) ?_ ?_
  · exact ⟨fun h => by omega, fun h => by omega, fun h => by omega, fun h => by omega⟩
  rintro k γ hk ⟨r1, r2, r3, r4⟩
  obtain rfl | rfl | rfl | rfl | rfl := le4 hk
  · refine kont_of_hx cx_ok hb 200 ?_
    simp only [go_sem, Nat.reduceAdd, Nat.reduceSub, Nat.reduceMul, Nat.reduceBEq, Nat.reduceLT, Nat.reduceLeDiff, Nat.reduceEqDiff, Int.reduceToNat, Int.reduceLE, Int.reduceLT, Int.reduceAdd, Int.reduceSub, Int.reduceNeg, Int.reduceBEq, Int.reduceBNe, Nat.reduceBNe, Nat.reduceDiv, Nat.reduceMod, wi3, ci0, ci1]
    refine kont_hax cx_ok hb 200 mixed [(0, true), (1, true), (2, true), (3, true), (4, true), (5, true), (6, true), (7, true), (8, true)] (by kernel_rfl) (by kernel_rfl) ?_
    simp only [go_sem, Nat.reduceAdd, Nat.reduceSub, Nat.reduceMul, Nat.reduceBEq, Nat.reduceLT, Nat.reduceLeDiff, Nat.reduceEqDiff, Int.reduceToNat, Int.reduceLE, Int.reduceLT, Int.reduceAdd, Int.reduceSub, Int.reduceNeg, Int.reduceBEq, Int.reduceBNe, Nat.reduceBNe, Nat.reduceDiv, Nat.reduceMod, wi3, ci0, ci1]
    by_cases h : d3 a = d3 b
    · simp only [go_sem, Nat.reduceAdd, Nat.reduceSub, Nat.reduceMul, Nat.reduceBEq, Nat.reduceLT, Nat.reduceLeDiff, Nat.reduceEqDiff, Int.reduceToNat, Int.reduceLE, Int.reduceLT, Int.reduceAdd, Int.reduceSub, Int.reduceNeg, Int.reduceBEq, Int.reduceBNe, Nat.reduceBNe, Nat.reduceDiv, Nat.reduceMod, nneF h]
      repeat (refine And.intro (by first | assumption | omega) ?_)
      refine ⟨_, Weak.to 2 (by (simp only [go_sem, Nat.reduceAdd, Nat.reduceSub, Nat.reduceMul, Nat.reduceBEq, Nat.reduceLT, Nat.reduceLeDiff, Nat.reduceEqDiff, Int.reduceToNat, Int.reduceLE, Int.reduceLT, Int.reduceAdd, Int.reduceSub, Int.reduceNeg, Int.reduceBEq, Int.reduceBNe, Nat.reduceBNe, Nat.reduceDiv, Nat.reduceMod, wi3, ci0, ci1, Int.reduceAdd, wi1]) <;> simp), ForS.mk (γ) (⟨fun _ => h, fun _ => by omega, fun _ => by omega, fun _ => by omega⟩)⟩
    · simp only [go_sem, Nat.reduceAdd, Nat.reduceSub, Nat.reduceMul, Nat.reduceBEq, Nat.reduceLT, Nat.reduceLeDiff, Nat.reduceEqDiff, Int.reduceToNat, Int.reduceLE, Int.reduceLT, Int.reduceAdd, Int.reduceSub, Int.reduceNeg, Int.reduceBEq, Int.reduceBNe, Nat.reduceBNe, Nat.reduceDiv, Nat.reduceMod, nneT h]
      refine kont_hax cx_ok hb 200 mixed [(0, true), (1, true), (2, true), (3, true), (4, true), (5, true), (6, true), (7, true), (8, true), (9, true)] (by kernel_rfl) (by kernel_rfl) ?_
      simp only [go_sem, Nat.reduceAdd, Nat.reduceSub, Nat.reduceMul, Nat.reduceBEq, Nat.reduceLT, Nat.reduceLeDiff, Nat.reduceEqDiff, Int.reduceToNat, Int.reduceLE, Int.reduceLT, Int.reduceAdd, Int.reduceSub, Int.reduceNeg, Int.reduceBEq, Int.reduceBNe, Nat.reduceBNe, Nat.reduceDiv, Nat.reduceMod, wi3, ci0, ci1]
      have q : decide (d3 a < d3 b) = decide (a < b) := by
        simp only [decide_eq_decide]
        simp only [d0, d1, d2, d3] at *
        omega
      rw [q]
  · refine kont_of_hx cx_ok hb 200 ?_
    simp only [go_sem, Nat.reduceAdd, Nat.reduceSub, Nat.reduceMul, Nat.reduceBEq, Nat.reduceLT, Nat.reduceLeDiff, Nat.reduceEqDiff, Int.reduceToNat, Int.reduceLE, Int.reduceLT, Int.reduceAdd, Int.reduceSub, Int.reduceNeg, Int.reduceBEq, Int.reduceBNe, Nat.reduceBNe, Nat.reduceDiv, Nat.reduceMod, wi2, ci1, ci2]
    have p1 := r1 (by omega)
    refine kont_hax cx_ok hb 200 mixed [(0, true), (1, true), (2, true), (3, true), (4, true), (5, true), (6, true), (7, true), (8, true)] (by kernel_rfl) (by kernel_rfl) ?_
    simp only [go_sem, Nat.reduceAdd, Nat.reduceSub, Nat.reduceMul, Nat.reduceBEq, Nat.reduceLT, Nat.reduceLeDiff, Nat.reduceEqDiff, Int.reduceToNat, Int.reduceLE, Int.reduceLT, Int.reduceAdd, Int.reduceSub, Int.reduceNeg, Int.reduceBEq, Int.reduceBNe, Nat.reduceBNe, Nat.reduceDiv, Nat.reduceMod, wi2, ci1, ci2]
    by_cases h : d2 a = d2 b
    · simp only [go_sem, Nat.reduceAdd, Nat.reduceSub, Nat.reduceMul, Nat.reduceBEq, Nat.reduceLT, Nat.reduceLeDiff, Nat.reduceEqDiff, Int.reduceToNat, Int.reduceLE, Int.reduceLT, Int.reduceAdd, Int.reduceSub, Int.reduceNeg, Int.reduceBEq, Int.reduceBNe, Nat.reduceBNe, Nat.reduceDiv, Nat.reduceMod, nneF h]
      repeat (refine And.intro (by first | assumption | omega) ?_)
      refine ⟨_, Weak.to 2 (by (simp only [go_sem, Nat.reduceAdd, Nat.reduceSub, Nat.reduceMul, Nat.reduceBEq, Nat.reduceLT, Nat.reduceLeDiff, Nat.reduceEqDiff, Int.reduceToNat, Int.reduceLE, Int.reduceLT, Int.reduceAdd, Int.reduceSub, Int.reduceNeg, Int.reduceBEq, Int.reduceBNe, Nat.reduceBNe, Nat.reduceDiv, Nat.reduceMod, wi2, ci1, ci2, Int.reduceAdd, wi2]) <;> simp), ForS.mk (γ) (⟨fun _ => p1, fun _ => h, fun _ => by omega, fun _ => by omega⟩)⟩
    · simp only [go_sem, Nat.reduceAdd, Nat.reduceSub, Nat.reduceMul, Nat.reduceBEq, Nat.reduceLT, Nat.reduceLeDiff, Nat.reduceEqDiff, Int.reduceToNat, Int.reduceLE, Int.reduceLT, Int.reduceAdd, Int.reduceSub, Int.reduceNeg, Int.reduceBEq, Int.reduceBNe, Nat.reduceBNe, Nat.reduceDiv, Nat.reduceMod, nneT h]
      refine kont_hax cx_ok hb 200 mixed [(0, true), (1, true), (2, true), (3, true), (4, true), (5, true), (6, true), (7, true), (8, true), (9, true)] (by kernel_rfl) (by kernel_rfl) ?_
      simp only [go_sem, Nat.reduceAdd, Nat.reduceSub, Nat.reduceMul, Nat.reduceBEq, Nat.reduceLT, Nat.reduceLeDiff, Nat.reduceEqDiff, Int.reduceToNat, Int.reduceLE, Int.reduceLT, Int.reduceAdd, Int.reduceSub, Int.reduceNeg, Int.reduceBEq, Int.reduceBNe, Nat.reduceBNe, Nat.reduceDiv, Nat.reduceMod, wi2, ci1, ci2]
      have q : decide (d2 a < d2 b) = decide (a < b) := by
        simp only [decide_eq_decide]
        simp only [d0, d1, d2, d3] at *
        omega
      rw [q]
  · refine kont_of_hx cx_ok hb 200 ?_
    simp only [go_sem, Nat.reduceAdd, Nat.reduceSub, Nat.reduceMul, Nat.reduceBEq, Nat.reduceLT, Nat.reduceLeDiff, Nat.reduceEqDiff, Int.reduceToNat, Int.reduceLE, Int.reduceLT, Int.reduceAdd, Int.reduceSub, Int.reduceNeg, Int.reduceBEq, Int.reduceBNe, Nat.reduceBNe, Nat.reduceDiv, Nat.reduceMod, wi1, ci2, ci3]
    have p1 := r1 (by omega)
    have p2 := r2 (by omega)
    refine kont_hax cx_ok hb 200 mixed [(0, true), (1, true), (2, true), (3, true), (4, true), (5, true), (6, true), (7, true), (8, true)] (by kernel_rfl) (by kernel_rfl) ?_
    simp only [go_sem, Nat.reduceAdd, Nat.reduceSub, Nat.reduceMul, Nat.reduceBEq, Nat.reduceLT, Nat.reduceLeDiff, Nat.reduceEqDiff, Int.reduceToNat, Int.reduceLE, Int.reduceLT, Int.reduceAdd, Int.reduceSub, Int.reduceNeg, Int.reduceBEq, Int.reduceBNe, Nat.reduceBNe, Nat.reduceDiv, Nat.reduceMod, wi1, ci2, ci3]
    by_cases h : d1 a = d1 b
    · simp only [go_sem, Nat.reduceAdd, Nat.reduceSub, Nat.reduceMul, Nat.reduceBEq, Nat.reduceLT, Nat.reduceLeDiff, Nat.reduceEqDiff, Int.reduceToNat, Int.reduceLE, Int.reduceLT, Int.reduceAdd, Int.reduceSub, Int.reduceNeg, Int.reduceBEq, Int.reduceBNe, Nat.reduceBNe, Nat.reduceDiv, Nat.reduceMod, nneF h]
      repeat (refine And.intro (by first | assumption | omega) ?_)
      refine ⟨_, Weak.to 2 (by (simp only [go_sem, Nat.reduceAdd, Nat.reduceSub, Nat.reduceMul, Nat.reduceBEq, Nat.reduceLT, Nat.reduceLeDiff, Nat.reduceEqDiff, Int.reduceToNat, Int.reduceLE, Int.reduceLT, Int.reduceAdd, Int.reduceSub, Int.reduceNeg, Int.reduceBEq, Int.reduceBNe, Nat.reduceBNe, Nat.reduceDiv, Nat.reduceMod, wi1, ci2, ci3, Int.reduceAdd, wi3]) <;> simp), ForS.mk (γ) (⟨fun _ => p1, fun _ => p2, fun _ => h, fun _ => by omega⟩)⟩
    · simp only [go_sem, Nat.reduceAdd, Nat.reduceSub, Nat.reduceMul, Nat.reduceBEq, Nat.reduceLT, Nat.reduceLeDiff, Nat.reduceEqDiff, Int.reduceToNat, Int.reduceLE, Int.reduceLT, Int.reduceAdd, Int.reduceSub, Int.reduceNeg, Int.reduceBEq, Int.reduceBNe, Nat.reduceBNe, Nat.reduceDiv, Nat.reduceMod, nneT h]
      refine kont_hax cx_ok hb 200 mixed [(0, true), (1, true), (2, true), (3, true), (4, true), (5, true), (6, true), (7, true), (8, true), (9, true)] (by kernel_rfl) (by kernel_rfl) ?_
      simp only [go_sem, Nat.reduceAdd, Nat.reduceSub, Nat.reduceMul, Nat.reduceBEq, Nat.reduceLT, Nat.reduceLeDiff, Nat.reduceEqDiff, Int.reduceToNat, Int.reduceLE, Int.reduceLT, Int.reduceAdd, Int.reduceSub, Int.reduceNeg, Int.reduceBEq, Int.reduceBNe, Nat.reduceBNe, Nat.reduceDiv, Nat.reduceMod, wi1, ci2, ci3]
      have q : decide (d1 a < d1 b) = decide (a < b) := by
        simp only [decide_eq_decide]
        simp only [d0, d1, d2, d3] at *
        omega
      rw [q]
  · refine kont_of_hx cx_ok hb 200 ?_
    simp only [go_sem, Nat.reduceAdd, Nat.reduceSub, Nat.reduceMul, Nat.reduceBEq, Nat.reduceLT, Nat.reduceLeDiff, Nat.reduceEqDiff, Int.reduceToNat, Int.reduceLE, Int.reduceLT, Int.reduceAdd, Int.reduceSub, Int.reduceNeg, Int.reduceBEq, Int.reduceBNe, Nat.reduceBNe, Nat.reduceDiv, Nat.reduceMod, wi0, ci3, ci4]
    have p1 := r1 (by omega)
    have p2 := r2 (by omega)
    have p3 := r3 (by omega)
    refine kont_hax cx_ok hb 200 mixed [(0, true), (1, true), (2, true), (3, true), (4, true), (5, true), (6, true), (7, true), (8, true)] (by kernel_rfl) (by kernel_rfl) ?_
    simp only [go_sem, Nat.reduceAdd, Nat.reduceSub, Nat.reduceMul, Nat.reduceBEq, Nat.reduceLT, Nat.reduceLeDiff, Nat.reduceEqDiff, Int.reduceToNat, Int.reduceLE, Int.reduceLT, Int.reduceAdd, Int.reduceSub, Int.reduceNeg, Int.reduceBEq, Int.reduceBNe, Nat.reduceBNe, Nat.reduceDiv, Nat.reduceMod, wi0, ci3, ci4]
    by_cases h : d0 a = d0 b
    · simp only [go_sem, Nat.reduceAdd, Nat.reduceSub, Nat.reduceMul, Nat.reduceBEq, Nat.reduceLT, Nat.reduceLeDiff, Nat.reduceEqDiff, Int.reduceToNat, Int.reduceLE, Int.reduceLT, Int.reduceAdd, Int.reduceSub, Int.reduceNeg, Int.reduceBEq, Int.reduceBNe, Nat.reduceBNe, Nat.reduceDiv, Nat.reduceMod, nneF h]
      repeat (refine And.intro (by first | assumption | omega) ?_)
      refine ⟨_, Weak.to 2 (by (simp only [go_sem, Nat.reduceAdd, Nat.reduceSub, Nat.reduceMul, Nat.reduceBEq, Nat.reduceLT, Nat.reduceLeDiff, Nat.reduceEqDiff, Int.reduceToNat, Int.reduceLE, Int.reduceLT, Int.reduceAdd, Int.reduceSub, Int.reduceNeg, Int.reduceBEq, Int.reduceBNe, Nat.reduceBNe, Nat.reduceDiv, Nat.reduceMod, wi0, ci3, ci4, Int.reduceAdd, wi4]) <;> simp), ForS.mk (γ) (⟨fun _ => p1, fun _ => p2, fun _ => p3, fun _ => h⟩)⟩
    · simp only [go_sem, Nat.reduceAdd, Nat.reduceSub, Nat.reduceMul, Nat.reduceBEq, Nat.reduceLT, Nat.reduceLeDiff, Nat.reduceEqDiff, Int.reduceToNat, Int.reduceLE, Int.reduceLT, Int.reduceAdd, Int.reduceSub, Int.reduceNeg, Int.reduceBEq, Int.reduceBNe, Nat.reduceBNe, Nat.reduceDiv, Nat.reduceMod, nneT h]
      refine kont_hax cx_ok hb 200 mixed [(0, true), (1, true), (2, true), (3, true), (4, true), (5, true), (6, true), (7, true), (8, true), (9, true)] (by kernel_rfl) (by kernel_rfl) ?_
      simp only [go_sem, Nat.reduceAdd, Nat.reduceSub, Nat.reduceMul, Nat.reduceBEq, Nat.reduceLT, Nat.reduceLeDiff, Nat.reduceEqDiff, Int.reduceToNat, Int.reduceLE, Int.reduceLT, Int.reduceAdd, Int.reduceSub, Int.reduceNeg, Int.reduceBEq, Int.reduceBNe, Nat.reduceBNe, Nat.reduceDiv, Nat.reduceMod, wi0, ci3, ci4]
      have q : decide (d0 a < d0 b) = decide (a < b) := by
        simp only [decide_eq_decide]
        simp only [d0, d1, d2, d3] at *
        omega
      rw [q]
  · refine kont_of_hx cx_ok hb 200 ?_
    simp only [go_sem, Nat.reduceAdd, Nat.reduceSub, Nat.reduceMul, Nat.reduceBEq, Nat.reduceLT, Nat.reduceLeDiff, Nat.reduceEqDiff, Int.reduceToNat, Int.reduceLE, Int.reduceLT, Int.reduceAdd, Int.reduceSub, Int.reduceNeg, Int.reduceBEq, Int.reduceBNe, Nat.reduceBNe, Nat.reduceDiv, Nat.reduceMod, ci4]
    have p1 := r1 (by omega)
    have p2 := r2 (by omega)
    have p3 := r3 (by omega)
    have p4 := r4 (by omega)
    have q : decide (a < b) = false := by
      simp only [decide_eq_false_iff_not]
      simp only [d0, d1, d2, d3] at *
      omega
    rw [q]
    refine kont_of_hx cx_ok hb 200 ?_
    simp only [go_sem, Nat.reduceAdd, Nat.reduceSub, Nat.reduceMul, Nat.reduceBEq, Nat.reduceLT, Nat.reduceLeDiff, Nat.reduceEqDiff, Int.reduceToNat, Int.reduceLE, Int.reduceLT, Int.reduceAdd, Int.reduceSub, Int.reduceNeg, Int.reduceBEq, Int.reduceBNe, Nat.reduceBNe, Nat.reduceDiv, Nat.reduceMod]
end Go.Fg.X
namespace Go.Fg.X
open Go.Proofs Go.Fg
set_option maxRecDepth 100000
set_option maxHeartbeats 4000000
set_option linter.unusedSimpArgs false
set_option linter.unusedVariables false
def outD (n : Nat) : Nat → List D
  | 0 => [u64 0, u64 0, u64 0, u64 0]
  | 1 => [u64 (d0 n), u64 0, u64 0, u64 0]
  | 2 => [u64 (d0 n), u64 (d1 n), u64 0, u64 0]
  | 3 => [u64 (d0 n), u64 (d1 n), u64 (d2 n), u64 0]
  | _ => [u64 (d0 n), u64 (d1 n), u64 (d2 n), u64 (d3 n)]
def cyD (a b : Nat) : Nat → Nat
  | 0 => 0
  | 1 => (a % 4294967296 + b % 4294967296) / 4294967296
  | 2 => (a % 18446744073709551616 + b % 18446744073709551616) / 18446744073709551616
  | 3 => (a % 79228162514264337593543950336 + b % 79228162514264337593543950336) / 79228162514264337593543950336
  | _ => (a + b) / 340282366920938463463374607431768211456
theorem cyD_le (a b : Nat) (ha : a < 2 ^ 128) (hb : b < 2 ^ 128) : ∀ k, cyD a b k ≤ 1
  | 0 => Nat.zero_le _
  | 1 => by simp only [cyD]; omega
  | 2 => by simp only [cyD]; omega
  | 3 => by simp only [cyD]; omega
  | _ + 4 => by simp only [cyD]; omega
theorem add_digit (x y c : Nat) (hx : x < 4294967296) (hy : y < 4294967296) (hc : c ≤ 1) : IntKind.u64.wrap (IntKind.u64.wrap ((x : Int) + (y : Int)) + (c : Int)) = ((x + y + c : Nat) : Int) := by
  rw [wu_add, wu_add]; congr 1; omega
theorem radd_ok (a b : Nat) (ha : a < 2 ^ 128) (hb : b < 2 ^ 128) : AFn Tryz.prog 107 [dg a, dg b] (Ret (.tup [dg (a + b), u64 ((a + b) / 340282366920938463463374607431768211456)])) := by
  refine AFn_hxk 0 cx_ok 200 Tryz.func107 rfl Tryz.ntmps107 Tryz.results107 rfl fun base w hb => ?_
  simp only [go_sem, simprocAttr]
  refine kont_forF (G := Nat) [2, 3, 4, 6] (fun k => True) (fun k γ => [(7, u64 (cyD a b k)), (11, dint k)]) (fun k γ => [⟨.one, 0, 4, 1, fun _ => [u64 (d0 a), u64 (d1 a), u64 (d2 a), u64 (d3 a)]⟩, ⟨.one, 0, 4, 1, fun _ => [u64 (d0 b), u64 (d1 b), u64 (d2 b), u64 (d3 b)]⟩, ⟨.one, 0, 4, 1, fun _ => [u64 0, u64 0, u64 0, u64 0]⟩, ⟨.one, 0, 4, 1, fun _ => outD (a + b) k⟩]) (4) (0) rfl (Weak.to 4 (by (simp only [go_sem, simprocAttr, outD, cyD]) <;> simp)) trivial ?_
  intro k γ hk _
  have hc := cyD_le a b ha ‹_›
  have l0 := d0_lt
  have l1 := d1_lt
  have l2 := d2_lt
  have l3 := d3_lt
  obtain rfl | rfl | rfl | rfl | rfl := le4 hk
  · have s := add_digit (d0 a) (d0 b) (cyD a b 0) (l0 a) (l0 b) (hc 0)
    have e1 : (d0 a + d0 b + cyD a b 0) % 4294967296 = d0 (a + b) := by simp only [d0, cyD]; omega
    have e2 : (d0 a + d0 b + cyD a b 0) / 4294967296 = cyD a b 1 := by simp only [d0, cyD]; omega
    have e3 := tdivB (d0 a + d0 b + cyD a b 0) (by have := l0 a; have := l0 b; have := hc 0; omega)
    rw [e2] at e3
    refine kont_of_hx cx_ok hb 200 ?_
    simp only [go_sem, simprocAttr, ci0, outD]
    refine kont_hax cx_ok hb 200 mixed [(0, true), (1, true), (2, true), (3, true), (4, true), (5, true), (6, true), (7, true), (8, true), (9, true)] (by kernel_rfl) (by kernel_rfl) ?_
    simp only [go_sem, simprocAttr, ci0, s, tmodB, e1, e3]
    repeat (refine And.intro (by first | assumption | omega) ?_)
    refine ⟨_, Weak.to 4 (by (simp only [go_sem, simprocAttr, ci0, ci1, s, tmodB, e1, e3, Int.reduceAdd, wi1, outD]) <;> simp), ForS.mk (γ) (trivial)⟩
  · have s := add_digit (d1 a) (d1 b) (cyD a b 1) (l1 a) (l1 b) (hc 1)
    have e1 : (d1 a + d1 b + cyD a b 1) % 4294967296 = d1 (a + b) := by simp only [d1, cyD]; omega
    have e2 : (d1 a + d1 b + cyD a b 1) / 4294967296 = cyD a b 2 := by simp only [d1, cyD]; omega
    have e3 := tdivB (d1 a + d1 b + cyD a b 1) (by have := l1 a; have := l1 b; have := hc 1; omega)
    rw [e2] at e3
    refine kont_of_hx cx_ok hb 200 ?_
    simp only [go_sem, simprocAttr, ci1, outD]
    refine kont_hax cx_ok hb 200 mixed [(0, true), (1, true), (2, true), (3, true), (4, true), (5, true), (6, true), (7, true), (8, true), (9, true)] (by kernel_rfl) (by kernel_rfl) ?_
    simp only [go_sem, simprocAttr, ci1, s, tmodB, e1, e3]
    repeat (refine And.intro (by first | assumption | omega) ?_)
    refine ⟨_, Weak.to 4 (by (simp only [go_sem, simprocAttr, ci1, ci2, s, tmodB, e1, e3, Int.reduceAdd, wi2, outD]) <;> simp), ForS.mk (γ) (trivial)⟩
  · have s := add_digit (d2 a) (d2 b) (cyD a b 2) (l2 a) (l2 b) (hc 2)
    have e1 : (d2 a + d2 b + cyD a b 2) % 4294967296 = d2 (a + b) := by simp only [d2, cyD]; omega
    have e2 : (d2 a + d2 b + cyD a b 2) / 4294967296 = cyD a b 3 := by simp only [d2, cyD]; omega
    have e3 := tdivB (d2 a + d2 b + cyD a b 2) (by have := l2 a; have := l2 b; have := hc 2; omega)
    rw [e2] at e3
    refine kont_of_hx cx_ok hb 200 ?_
    simp only [go_sem, simprocAttr, ci2, outD]
    refine kont_hax cx_ok hb 200 mixed [(0, true), (1, true), (2, true), (3, true), (4, true), (5, true), (6, true), (7, true), (8, true), (9, true)] (by kernel_rfl) (by kernel_rfl) ?_
    simp only [go_sem, simprocAttr, ci2, s, tmodB, e1, e3]
    repeat (refine And.intro (by first | assumption | omega) ?_)
    refine ⟨_, Weak.to 4 (by (simp only [go_sem, simprocAttr, ci2, ci3, s, tmodB, e1, e3, Int.reduceAdd, wi3, outD]) <;> simp), ForS.mk (γ) (trivial)⟩
  · have s := add_digit (d3 a) (d3 b) (cyD a b 3) (l3 a) (l3 b) (hc 3)
    have e1 : (d3 a + d3 b + cyD a b 3) % 4294967296 = d3 (a + b) := by simp only [d3, cyD]; omega
    have e2 : (d3 a + d3 b + cyD a b 3) / 4294967296 = cyD a b 4 := by simp only [d3, cyD]; omega
    have e3 := tdivB (d3 a + d3 b + cyD a b 3) (by have := l3 a; have := l3 b; have := hc 3; omega)
    rw [e2] at e3
    refine kont_of_hx cx_ok hb 200 ?_
    simp only [go_sem, simprocAttr, ci3, outD]
    refine kont_hax cx_ok hb 200 mixed [(0, true), (1, true), (2, true), (3, true), (4, true), (5, true), (6, true), (7, true), (8, true), (9, true)] (by kernel_rfl) (by kernel_rfl) ?_
    simp only [go_sem, simprocAttr, ci3, s, tmodB, e1, e3]
    repeat (refine And.intro (by first | assumption | omega) ?_)
    refine ⟨_, Weak.to 4 (by (simp only [go_sem, simprocAttr, ci3, ci4, s, tmodB, e1, e3, Int.reduceAdd, wi4, outD]) <;> simp), ForS.mk (γ) (trivial)⟩
  · refine kont_of_hx cx_ok hb 200 ?_
    simp only [go_sem, simprocAttr, ci4, outD, cyD]
    refine kont_of_hx cx_ok hb 200 ?_
    simp only [go_sem, simprocAttr]
theorem rplus_ok (a b : Nat) (ha : a < 2 ^ 128) (hb : b < 2 ^ 128) : AFn Tryz.prog 91 [dg a, dg b] (Ret (dg (a + b))) := by
  refine AFn_hxk 0 cx_ok 200 Tryz.func91 rfl Tryz.ntmps91 Tryz.results91 rfl fun base w hb => ?_
  simp only [go_sem, simprocAttr]
  refine kont_call hb fn107 rfl ?_ (radd_ok a b ha ‹_›) (Ret.flat rfl) rfl fun d h hR => ?_
  · simp only [go_sem, simprocAttr]
  obtain ⟨rfl, rfl⟩ := hR
  refine kont_of_hx cx_ok hb 200 ?_
  simp only [go_sem, simprocAttr]
end Go.Fg.X
namespace Go.Fg.X
open Go.Proofs Go.Fg
set_option maxRecDepth 100000
set_option maxHeartbeats 4000000
set_option linter.unusedSimpArgs false
set_option linter.unusedVariables false
end Go.Fg.X
