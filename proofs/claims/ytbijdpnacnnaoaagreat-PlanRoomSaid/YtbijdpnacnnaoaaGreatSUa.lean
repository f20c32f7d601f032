/- Walks of the functions that the statement reaches. No conditions: contracts and laws. -/
import Derived.Test.YtbijdpnacnnaoaaGreatSU3
import Derived.Sort.LotD5
/- The sort of words of 64 bits: walked (4): insertion. Conditions: places within the array. -/
namespace Go.Fg.X
open Go.Proofs Go.Fg
set_option maxRecDepth 100000
set_option maxHeartbeats 4000000
set_option linter.unusedSimpArgs false
set_option linter.unusedVariables false
theorem insInner_size (a : Nat) : ∀ (j : Nat) (d : Array Int), (Sort.insInner ltI a j d).size = d.size
  | 0, d => rfl
  | j + 1, d => by rw [Sort.insInner]; split; rw [insInner_size a j, swp_size]; rfl
section
variable {h : List Ob} {lo g : Nat} {d : Array Int} (ho : h[lo]? = some (arrO g d))
include ho
theorem insertion_ok (a b : Nat) (hab : a ≤ b) (hb0 : b ≤ d.size) (hz : d.size < 1000000000) :
    MFn Tryz.prog 121 h [.ref lo g 0 d.size, dint a, dint b] (fun dd h' => dd = .tup [] ∧ h' = h.set lo (arrO g (Sort.insertionSort ltI d a b))) := by
  have e0 : IntKind.i64.wrap ((a : Int) + 1) = ((a + 1 : Nat) : Int) := by rw [wrap64 (by omega) (by omega)]; omega
  refine MFn_hx cx_ok 200 Tryz.func121 rfl Tryz.ntmps121 Tryz.results121 rfl fun base w pl hb => ?_
  have ho_l := hlt ho
  simp only [go_sem, simprocAttr, hgetA, hgetL, hgetLk, hsetA, hsetL, hsetLk, List.length_append, List.length_set, List.append_assoc, List.set_set, ho, ho_l, e0]
  refine kont_for (fun k st => ∃ d' : Array Int, d'.size = d.size ∧ Sort.insOuter ltI a b (a + 1 + k) d' = Sort.insertionSort ltI d a b ∧ a + 1 + k ≤ b + 1 ∧ st = ⟨[(0, .ref lo g 0 d.size), (1, dint a), (2, dint b), (6, dint (a + 1 + k : Nat))], h.set lo (arrO g d')⟩) d.size (s0 := ⟨[(0, .ref lo g 0 d.size), (1, dint a), (2, dint b), (6, dint (a + 1 + 0 : Nat))], h.set lo (arrO g d)⟩) ?_ ⟨d, rfl, rfl, by omega, rfl⟩ ?_
  · rw [setU_same ho]
    exact Weak.frame (by simp only [go_sem, simprocAttr])
  rintro k _ hk ⟨d', hs, hd, hi, rfl⟩
  have hl := arr_at (g := g) (d := d') ho_l
  by_cases c : a + 1 + k < b
  · have c1 : decide (a + 1 + k < b) = true := decide_eq_true c
    refine kont_of_hx cx_ok hb 200 ?_
    simp only [go_sem, simprocAttr, hgetA, hgetL, hgetLk, hsetA, hsetL, hsetLk, List.length_append, List.length_set, List.append_assoc, List.set_set, hl, c1]
    refine kont_for (fun m st => ∃ (d1 : Array Int) (j : Nat), d1.size = d.size ∧ j + m = a + 1 + k ∧ Sort.insInner ltI a j d1 = Sort.insInner ltI a (a + 1 + k) d' ∧ a ≤ j ∧ st = ⟨[(0, .ref lo g 0 d.size), (1, dint a), (2, dint b), (6, dint (a + 1 + k : Nat)), (7, dint j)], h.set lo (arrO g d1)⟩) (a + 1 + k) (s0 := ⟨[(0, .ref lo g 0 d.size), (1, dint a), (2, dint b), (6, dint (a + 1 + k : Nat)), (7, dint (a + 1 + k : Nat))], h.set lo (arrO g d')⟩) (Weak.frame (by simp only [go_sem, simprocAttr])) ⟨d', _, hs, rfl, rfl, Nat.le_trans (Nat.le_succ a) (Nat.le_add_right _ _), rfl⟩ ?_
    rintro m _ hm ⟨d1, j, hs1, hj, hi1, haj, rfl⟩
    have hl1 := arr_at (g := g) (d := d1) ho_l
    generalize hH : h.set lo (arrO g d1) = H at hl1
    have hl1_l := hlt hl1
    by_cases c2 : a < j
    · have c3 : decide (a < j) = true := decide_eq_true c2
      have v1 : IntKind.i64.wrap ((j : Int) - 1) = ((j - 1 : Nat) : Int) := by rw [wrap64 (by omega) (by omega)]; omega
      have p1 : j < d.size := by omega
      have p2 : j - 1 < d.size := by omega
      refine kont_of_hx cx_ok hb 200 ?_
      simp only [go_sem, simprocAttr, hgetA, hgetL, hgetLk, hsetA, hsetL, hsetLk, List.length_append, List.length_set, List.append_assoc, List.set_set, hl1, hl1_l, c3, v1]
      refine kont_hax cx_ok hb 200 mixed [(0, true), (1, true), (2, true), (3, true), (4, true), (5, true), (6, true), (7, true), (8, true), (9, true), (10, true), (11, true), (12, true), (13, false), (14, true)] (by kernel_rfl) (by kernel_rfl) ?_
      simp only [go_sem, simprocAttr, hgetA, hgetL, hgetLk, hsetA, hsetL, hsetLk, List.length_append, List.length_set, List.append_assoc, List.set_set, hl1, hl1_l, c3, v1, p1, p2, hs1]
      refine AX_call hb fn127 rfl ?_ (lessU_ok d1[j]! d1[j - 1]!) (Ret.flat rfl) rfl fun d h hR => ?_
      · simp only [go_sem, simprocAttr]
      obtain ⟨rfl, rfl⟩ := hR
      refine AX_of_hax cx_ok hb ?_
      simp only [go_sem, simprocAttr]
      have un : Sort.insInner ltI a j d1 = if ltI d1[j]! d1[j - 1]! then Sort.insInner ltI a (j - 1) (Sort.swp d1 j (j - 1)) else d1 := by
        obtain ⟨j', rfl⟩ : ∃ j', j = j' + 1 := ⟨j - 1, by omega⟩
        rw [Sort.insInner]
        simp [show j' + 1 > a from c2]
      cases hlt1 : ltI d1[j]! d1[j - 1]!
      · rw [hlt1, if_neg (by decide)] at un
        simp only [go_sem, simprocAttr, hlt1]
        refine kont_of_hx cx_ok hb 200 ?_
        simp only [go_sem, simprocAttr, hgetA, hgetL, hgetLk, hsetA, hsetL, hsetLk, List.length_append, List.length_set, List.append_assoc, List.set_set]
        have v2 : IntKind.i64.wrap (((a + 1 + k : Nat) : Int) + 1) = ((a + 1 + (k + 1) : Nat) : Int) := by rw [wrap64 (by omega) (by omega)]; omega
        rw [v2]
        have hd2 : Sort.insOuter ltI a b (a + 1 + (k + 1)) d1 = Sort.insertionSort ltI d a b := by
          rw [← hd]
          conv => rhs; rw [Sort.insOuter, if_pos c]
          rw [← hi1, un]
          rfl
        refine ⟨by omega, _, ?_, d1, hs1, hd2, by omega, rfl⟩
        rw [← hH]
        exact Weak.frame (by simp only [go_sem, simprocAttr])
      · rw [hlt1, if_pos rfl] at un
        simp only [go_sem, simprocAttr, hlt1]
        refine kont_haxFJ (⟨[(0, .ref lo g 0 d.size), (1, dint a), (2, dint b), (6, dint (a + 1 + k : Nat)), (7, dint j)], h.set lo (arrO g (Sort.swp d1 j (j - 1)))⟩) cx_ok hb mixed [(0, true), (1, true), (2, true), (3, true), (5, true), (6, true), (7, true), (8, true), (9, true), (10, true), (11, true), (12, true), (13, true), (14, true)] [4, 15, 16, 17] (by kernel_rfl) (by kernel_rfl) (fun s hw => kont_weak hw rfl ?_) ?_
        rotate_left
        · simp only [go_sem, simprocAttr, hgetA, hgetL, hgetLk, hsetA, hsetL, hsetLk, List.length_append, List.length_set, List.append_assoc, List.set_set, hl1, hl1_l, c3, v1, p1, p2, hs1, hgetS hl1_l, List.set_set, dropB]
          rw [obj_swp g d1 _ _ _ hs1 p1 p2, ← hH, List.set_set]
          repeat' refine And.intro ?_ ?_
          all_goals exact Weak.frame (by simp only [go_sem, simprocAttr])
        refine kont_of_hx cx_ok hb 200 ?_
        simp only [go_sem, simprocAttr, v1]
        refine ⟨by omega, _, ?_, Sort.swp d1 j (j - 1), j - 1, by rw [swp_size, hs1], by omega, by rw [← un, hi1], by omega, rfl⟩
        exact Weak.frame (by simp only [go_sem, simprocAttr])
    · have c3 : decide (a < j) = false := decide_eq_false c2
      have un : Sort.insInner ltI a j d1 = d1 := by
        cases j with
        | zero => rfl
        | succ j' => rw [Sort.insInner]; simp [show ¬ j' + 1 > a from c2]
      refine kont_of_hx cx_ok hb 200 ?_
      simp only [go_sem, simprocAttr, hgetA, hgetL, hgetLk, hsetA, hsetL, hsetLk, List.length_append, List.length_set, List.append_assoc, List.set_set, hl1, hl1_l, c3]
      refine kont_hax cx_ok hb 200 mixed [(0, true), (1, true), (2, true), (3, true), (4, true), (5, true), (6, true), (7, true), (8, true), (9, true), (10, true), (11, true), (12, true), (13, false), (14, true)] (by kernel_rfl) (by kernel_rfl) ?_
      simp only [go_sem, simprocAttr, hgetA, hgetL, hgetLk, hsetA, hsetL, hsetLk, List.length_append, List.length_set, List.append_assoc, List.set_set, hl1, hl1_l, c3, hs1]
      refine kont_of_hx cx_ok hb 200 ?_
      simp only [go_sem, simprocAttr, hgetA, hgetL, hgetLk, hsetA, hsetL, hsetLk, List.length_append, List.length_set, List.append_assoc, List.set_set]
      have v2 : IntKind.i64.wrap (((a + 1 + k : Nat) : Int) + 1) = ((a + 1 + (k + 1) : Nat) : Int) := by rw [wrap64 (by omega) (by omega)]; omega
      rw [v2]
      have hd2 : Sort.insOuter ltI a b (a + 1 + (k + 1)) d1 = Sort.insertionSort ltI d a b := by
        rw [← hd]
        conv => rhs; rw [Sort.insOuter, if_pos c]
        rw [← hi1, un]
        rfl
      refine ⟨by omega, _, ?_, d1, hs1, hd2, by omega, rfl⟩
      rw [← hH]
      exact Weak.frame (by simp only [go_sem, simprocAttr])
  · have c1 : decide (a + 1 + k < b) = false := decide_eq_false c
    rw [Sort.insOuter, if_neg c] at hd
    refine kont_of_hx cx_ok hb 200 ?_
    simp only [go_sem, simprocAttr, hgetA, hgetL, hgetLk, hsetA, hsetL, hsetLk, List.length_append, List.length_set, List.append_assoc, List.set_set, hl, c1]
    exact congrArg (fun x => h.set lo (arrO g x)) hd
end
end Go.Fg.X
/- The sort of words of 64 bits: walked (5): sifting, the heap. Conditions: places within the array. -/
namespace Go.Fg.X
open Go.Proofs Go.Fg
set_option maxRecDepth 100000
set_option maxHeartbeats 4000000
set_option linter.unusedSimpArgs false
set_option linter.unusedVariables false
theorem siftDown_size (hi first : Nat) : ∀ (n root : Nat) (d : Array Int), hi - root ≤ n → (Sort.siftDown ltI hi first root d).size = d.size
  | n, root, d, hn => by
    rw [Sort.siftDown]
    split
    · rfl
    · rename_i h1
      split
      · split
        · rfl
        · split
          · obtain ⟨n', rfl⟩ : ∃ n', n = n' + 1 := ⟨n - 1, by omega⟩
            rw [siftDown_size hi first n' _ _ (by omega), swp_size]
          · rfl
      · split
        · rfl
        · obtain ⟨n', rfl⟩ : ∃ n', n = n' + 1 := ⟨n - 1, by omega⟩
          rw [siftDown_size hi first n' _ _ (by omega), swp_size]
section
variable {h : List Ob} {lo g : Nat} {d : Array Int} (ho : h[lo]? = some (arrO g d))
include ho
theorem siftDown_ok (hi first root : Nat) (hb0 : first + hi ≤ d.size) (hrt : root ≤ d.size) (hz : d.size < 1000000000) :
    MFn Tryz.prog 136 h [.ref lo g 0 d.size, dint root, dint hi, dint first] (fun dd h' => dd = .tup [] ∧ h' = h.set lo (arrO g (Sort.siftDown ltI hi first root d))) := by
  refine MFn_hx cx_ok 200 Tryz.func136 rfl Tryz.ntmps136 Tryz.results136 rfl fun base w pl hb => ?_
  have ho_l := hlt ho
  simp only [go_sem, simprocAttr, hgetA, hgetL, hgetLk, hsetA, hsetL, hsetLk, List.length_append, List.length_set, List.append_assoc, List.set_set, ho, ho_l]
  refine kont_for (fun m st => ∃ (d1 : Array Int) (r : Nat), d1.size = d.size ∧ m ≤ r ∧ r ≤ d.size ∧ Sort.siftDown ltI hi first r d1 = Sort.siftDown ltI hi first root d ∧ st = ⟨[(0, .ref lo g 0 d.size), (2, dint hi), (3, dint first), (8, dint r)], h.set lo (arrO g d1)⟩) (d.size) (s0 := ⟨[(0, .ref lo g 0 d.size), (2, dint hi), (3, dint first), (8, dint root)], h.set lo (arrO g d)⟩) ?_ ⟨d, root, rfl, Nat.zero_le _, hrt, rfl, rfl⟩ ?_
  · rw [setU_same ho]
    exact Weak.frame (by simp only [go_sem, simprocAttr])
  rintro m _ hm ⟨d1, r, hs1, hmr, hrs, hd1, rfl⟩
  have hl1 := arr_at (g := g) (d := d1) ho_l
  generalize hH : h.set lo (arrO g d1) = H at hl1
  have hl1_l := hlt hl1
  have v1 : IntKind.i64.wrap (2 * (r : Int)) = ((2 * r : Nat) : Int) := by rw [wrap64 (by omega) (by omega)]; omega
  have v2 : IntKind.i64.wrap (((2 * r : Nat) : Int) + 1) = ((2 * r + 1 : Nat) : Int) := by rw [wrap64 (by omega) (by omega)]; omega
  have v3 : IntKind.i64.wrap (((2 * r + 1 : Nat) : Int) + 1) = ((2 * r + 1 + 1 : Nat) : Int) := by rw [wrap64 (by omega) (by omega)]; omega
  rw [Sort.siftDown] at hd1
  by_cases c1 : hi ≤ 2 * r + 1
  · have e1 : decide (hi ≤ 2 * r + 1) = true := decide_eq_true c1
    rw [dif_pos c1] at hd1
    refine kont_of_hx cx_ok hb 200 ?_
    simp only [go_sem, simprocAttr, hgetA, hgetL, hgetLk, hsetA, hsetL, hsetLk, List.length_append, List.length_set, List.append_assoc, List.set_set, hl1, hl1_l, v1, v2, e1]
    exact hH.symm.trans (congrArg (fun x => h.set lo (arrO g x)) hd1)
  · have e1 : decide (hi ≤ 2 * r + 1) = false := decide_eq_false c1
    rw [dif_neg c1] at hd1
    have p0 : first + r < d.size := by omega
    have p1 : first + (2 * r + 1) < d.size := by omega
    have w0 : IntKind.i64.wrap ((first : Int) + r) = ((first + r : Nat) : Int) := by rw [wrap64 (by omega) (by omega)]; omega
    have w1 : IntKind.i64.wrap ((first : Int) + (2 * r + 1 : Nat)) = ((first + (2 * r + 1) : Nat) : Int) := by rw [wrap64 (by omega) (by omega)]; omega
    have w2 : IntKind.i64.wrap ((first : Int) + (2 * r + 1 + 1 : Nat)) = ((first + (2 * r + 1 + 1) : Nat) : Int) := by rw [wrap64 (by omega) (by omega)]; omega
    have w3 : IntKind.i64.wrap (((first + (2 * r + 1) : Nat) : Int) + 1) = ((first + (2 * r + 1) + 1 : Nat) : Int) := by rw [wrap64 (by omega) (by omega)]; omega
    refine kont_of_hx cx_ok hb 200 ?_
    simp only [go_sem, simprocAttr, hgetA, hgetL, hgetLk, hsetA, hsetL, hsetLk, List.length_append, List.length_set, List.append_assoc, List.set_set, hl1, hl1_l, v1, v2, e1]
    first | refine kont_seq ?_ | skip
    refine kont_joinF [0, 2, 3, 8, 9] [(36, dbool (decide (2 * r + 1 + 1 < hi) && ltI d1[first + (2 * r + 1)]! d1[first + (2 * r + 1) + 1]!))] rfl ?_ ?_
    · by_cases c2 : 2 * r + 1 + 1 < hi
      · have e2 : decide (2 * r + 1 + 1 < hi) = true := decide_eq_true c2
        have p2 : first + (2 * r + 1) + 1 < d.size := by omega
        refine kont_hax cx_ok hb 200 mixed [(0, true), (1, true), (2, true), (3, true), (4, true), (5, true), (6, true), (7, true), (8, true), (9, true), (10, true), (11, true), (12, true), (13, true), (14, true), (15, true), (16, true), (17, true), (18, false), (19, true)] (by kernel_rfl) (by kernel_rfl) ?_
        simp only [go_sem, simprocAttr, hgetA, hgetL, hgetLk, hsetA, hsetL, hsetLk, List.length_append, List.length_set, List.append_assoc, List.set_set, hl1, hl1_l, hs1, v3, e2, w1, w3, p1, p2]
        refine AX_call hb fn127 rfl ?_ (lessU_ok d1[first + (2 * r + 1)]! d1[first + (2 * r + 1) + 1]!) (Ret.flat rfl) rfl fun d h hR => ?_
        · simp only [go_sem, simprocAttr]
        obtain ⟨rfl, rfl⟩ := hR
        refine AX_of_hax cx_ok hb ?_
        simp only [go_sem, simprocAttr]
        exact Weak.frame (by simp only [go_sem, simprocAttr])
      · have e2 : decide (2 * r + 1 + 1 < hi) = false := decide_eq_false c2
        refine kont_hax cx_ok hb 200 mixed [(0, true), (1, true), (2, true), (3, true), (4, true), (5, true), (6, true), (7, true), (8, true), (9, true), (10, true), (11, true), (12, true), (13, true), (14, true), (15, true), (16, true), (17, true), (18, false), (19, true)] (by kernel_rfl) (by kernel_rfl) ?_
        simp only [go_sem, simprocAttr, hgetA, hgetL, hgetLk, hsetA, hsetL, hsetLk, List.length_append, List.length_set, List.append_assoc, List.set_set, hl1, hl1_l, hs1, v3, e2, w1, w3, p1]
        exact Weak.frame (by simp only [go_sem, simprocAttr])
    · cases hB : (decide (2 * r + 1 + 1 < hi) && ltI d1[first + (2 * r + 1)]! d1[first + (2 * r + 1) + 1]!)
      · rw [hB, if_neg (by decide)] at hd1
        refine kont_of_hx cx_ok hb 200 ?_
        simp only [go_sem, simprocAttr, hB]
        refine kont_hax cx_ok hb 200 mixed [(0, true), (1, true), (2, true), (3, true), (4, true), (5, true), (6, true), (7, true), (8, true), (9, true), (10, true), (11, true), (12, false), (13, true)] (by kernel_rfl) (by kernel_rfl) ?_
        simp only [go_sem, simprocAttr, hgetA, hgetL, hgetLk, hsetA, hsetL, hsetLk, List.length_append, List.length_set, List.append_assoc, List.set_set, hl1, hl1_l, hs1, w0, w1, p0, p1]
        refine AX_call hb fn127 rfl ?_ (lessU_ok d1[first + r]! d1[first + (2 * r + 1)]!) (Ret.flat rfl) rfl fun d h hR => ?_
        · simp only [go_sem, simprocAttr]
        obtain ⟨rfl, rfl⟩ := hR
        refine AX_of_hax cx_ok hb ?_
        simp only [go_sem, simprocAttr]
        cases hq : ltI d1[first + r]! d1[first + (2 * r + 1)]!
        · rw [hq, Bool.not_false, if_pos rfl] at hd1
          simp only [go_sem, simprocAttr, hq]
          exact hH.symm.trans (congrArg (fun x => h.set lo (arrO g x)) hd1)
        · rw [hq, Bool.not_true, if_neg (by decide)] at hd1
          skip
          simp only [go_sem, simprocAttr, hq]
          refine kont_haxFJ (⟨[(0, .ref lo g 0 d.size), (2, dint hi), (3, dint first), (9, dint (2 * r + 1 : Nat))], h.set lo (arrO g (Sort.swp d1 (first + r) (first + (2 * r + 1))))⟩) cx_ok hb mixed [(0, true), (1, true), (2, true), (3, true), (4, true), (5, true), (6, true), (8, true), (9, true), (10, true), (11, true), (12, true), (13, true), (14, true), (15, true), (16, true), (17, true), (18, true), (19, true), (20, true)] [7, 21, 22, 23] (by kernel_rfl) (by kernel_rfl) (fun s hw => kont_weak hw rfl ?_) ?_
          rotate_left
          · simp only [go_sem, simprocAttr, hgetA, hgetL, hgetLk, hsetA, hsetL, hsetLk, List.length_append, List.length_set, List.append_assoc, List.set_set, hl1, hl1_l, w0, w1, p0, p1, hs1, hgetS hl1_l, List.set_set, dropB]
            rw [obj_swp g d1 _ _ _ hs1 p0 p1, ← hH, List.set_set]
            repeat' refine And.intro ?_ ?_
            all_goals exact Weak.frame (by simp only [go_sem, simprocAttr])
          refine kont_of_hx cx_ok hb 200 ?_
          simp only [go_sem, simprocAttr]
          refine ⟨by omega, _, ?_, Sort.swp d1 (first + r) (first + (2 * r + 1)), 2 * r + 1, by rw [swp_size, hs1], by omega, by omega, hd1, rfl⟩
          exact Weak.frame (by simp only [go_sem, simprocAttr])
      · have hq2 : 2 * r + 1 + 1 < hi := by
          rw [Bool.and_eq_true] at hB
          exact of_decide_eq_true hB.1
        rw [hB, if_pos rfl] at hd1
        have p2 : first + (2 * r + 1 + 1) < d.size := by omega
        refine kont_of_hx cx_ok hb 200 ?_
        simp only [go_sem, simprocAttr, hB, v3]
        refine kont_hax cx_ok hb 200 mixed [(0, true), (1, true), (2, true), (3, true), (4, true), (5, true), (6, true), (7, true), (8, true), (9, true), (10, true), (11, true), (12, false), (13, true)] (by kernel_rfl) (by kernel_rfl) ?_
        simp only [go_sem, simprocAttr, hgetA, hgetL, hgetLk, hsetA, hsetL, hsetLk, List.length_append, List.length_set, List.append_assoc, List.set_set, hl1, hl1_l, hs1, w0, w2, p0, p2]
        refine AX_call hb fn127 rfl ?_ (lessU_ok d1[first + r]! d1[first + (2 * r + 1 + 1)]!) (Ret.flat rfl) rfl fun d h hR => ?_
        · simp only [go_sem, simprocAttr]
        obtain ⟨rfl, rfl⟩ := hR
        refine AX_of_hax cx_ok hb ?_
        simp only [go_sem, simprocAttr]
        cases hq : ltI d1[first + r]! d1[first + (2 * r + 1 + 1)]!
        · rw [hq, Bool.not_false, if_pos rfl] at hd1
          simp only [go_sem, simprocAttr, hq]
          exact hH.symm.trans (congrArg (fun x => h.set lo (arrO g x)) hd1)
        · rw [hq, Bool.not_true, if_neg (by decide)] at hd1
          rw [dif_pos (show 2 * r + 2 < hi from hq2)] at hd1
          simp only [go_sem, simprocAttr, hq]
          refine kont_haxFJ (⟨[(0, .ref lo g 0 d.size), (2, dint hi), (3, dint first), (9, dint (2 * r + 1 + 1 : Nat))], h.set lo (arrO g (Sort.swp d1 (first + r) (first + (2 * r + 1 + 1))))⟩) cx_ok hb mixed [(0, true), (1, true), (2, true), (3, true), (4, true), (5, true), (6, true), (8, true), (9, true), (10, true), (11, true), (12, true), (13, true), (14, true), (15, true), (16, true), (17, true), (18, true), (19, true), (20, true)] [7, 21, 22, 23] (by kernel_rfl) (by kernel_rfl) (fun s hw => kont_weak hw rfl ?_) ?_
          rotate_left
          · simp only [go_sem, simprocAttr, hgetA, hgetL, hgetLk, hsetA, hsetL, hsetLk, List.length_append, List.length_set, List.append_assoc, List.set_set, hl1, hl1_l, w0, w2, p0, p2, hs1, hgetS hl1_l, List.set_set, dropB]
            rw [obj_swp g d1 _ _ _ hs1 p0 p2, ← hH, List.set_set]
            repeat' refine And.intro ?_ ?_
            all_goals exact Weak.frame (by simp only [go_sem, simprocAttr])
          refine kont_of_hx cx_ok hb 200 ?_
          simp only [go_sem, simprocAttr]
          refine ⟨by omega, _, ?_, Sort.swp d1 (first + r) (first + (2 * r + 1 + 1)), 2 * r + 1 + 1, by rw [swp_size, hs1], by omega, by omega, hd1, rfl⟩
          exact Weak.frame (by simp only [go_sem, simprocAttr])
end
end Go.Fg.X
/- The sort of words of 64 bits: walked (6): the sort by a heap. Conditions: places within the array. -/
namespace Go.Fg.X
open Go.Proofs Go.Fg
set_option maxRecDepth 100000
set_option maxHeartbeats 4000000
set_option linter.unusedSimpArgs false
set_option linter.unusedVariables false
theorem siftDown_sz (hi first root : Nat) (d : Array Int) : (Sort.siftDown ltI hi first root d).size = d.size := siftDown_size hi first _ root d (Nat.le_refl _)
theorem heapBuild_sz (hi first : Nat) : ∀ (k : Nat) (d : Array Int), (Sort.heapBuild ltI hi first k d).size = d.size
  | 0, d => rfl
  | k + 1, d => by rw [Sort.heapBuild, heapBuild_sz hi first k, siftDown_sz]
theorem nat_ge0 (n : Nat) : decide ((0 : Int) ≤ (n : Int)) = true := decide_eq_true (Int.natCast_nonneg n)
section
variable {h : List Ob} {lo g : Nat} {d : Array Int} (ho : h[lo]? = some (arrO g d))
include ho
theorem heapSort_ok (a b : Nat) (hab : a < b) (hb0 : b ≤ d.size) (hz : d.size < 1000000000) :
    MFn Tryz.prog 122 h [.ref lo g 0 d.size, dint a, dint b] (fun dd h' => dd = .tup [] ∧ h' = h.set lo (arrO g (Sort.heapSort ltI d a b))) := by
  have e0 : IntKind.i64.wrap ((b : Int) - a) = ((b - a : Nat) : Int) := by rw [wrap64 (by omega) (by omega)]; omega
  have e1 : IntKind.i64.wrap (((b - a : Nat) : Int) - 1) = ((b - a - 1 : Nat) : Int) := by rw [wrap64 (by omega) (by omega)]; omega
  have e2 : ((b - a - 1 : Nat) : Int).tdiv 2 = (((b - a - 1) / 2 : Nat) : Int) := rfl
  have e3 : IntKind.i64.wrap ((((b - a - 1) / 2 : Nat) : Int)) = (((b - a - 1) / 2 : Nat) : Int) := by rw [wrap64 (by omega) (by omega)]
  have z0 : ((0 : Nat) : Int) = 0 := rfl
  refine MFn_hx cx_ok 200 Tryz.func122 rfl Tryz.ntmps122 Tryz.results122 rfl fun base w pl hb => ?_
  have ho_l := hlt ho
  simp only [go_sem, simprocAttr, hgetA, hgetL, hgetLk, hsetA, hsetL, hsetLk, List.length_append, List.length_set, List.append_assoc, List.set_set, ho, ho_l, e0, e1, e2, e3]
  unfold Sort.heapSort
  refine kont_for (fun m st => ∃ (d1 : Array Int) (k : Nat), d1.size = d.size ∧ k + m = (b - a - 1) / 2 + 1 ∧ Sort.heapBuild ltI (b - a) a k d1 = Sort.heapBuild ltI (b - a) a ((b - a - 1) / 2 + 1) d ∧ st = ⟨[(0, .ref lo g 0 d.size), (6, dint a), (7, dint 0), (8, dint (b - a : Nat)), (9, dint ((k : Int) - 1))], h.set lo (arrO g d1)⟩) ((b - a - 1) / 2 + 1) (s0 := ⟨[(0, .ref lo g 0 d.size), (6, dint a), (7, dint 0), (8, dint (b - a : Nat)), (9, dint ((((b - a - 1) / 2 + 1 : Nat) : Int) - 1))], h.set lo (arrO g d)⟩) ?_ ⟨d, _, rfl, rfl, rfl, rfl⟩ ?_
  · rw [setU_same ho, show ((((b - a - 1) / 2 + 1 : Nat) : Int) - 1) = (((b - a - 1) / 2 : Nat) : Int) by omega]
    exact Weak.frame (by simp only [go_sem, simprocAttr])
  rintro m _ hm ⟨d1, k, hs1, hk, hd1, rfl⟩
  have hl1 := arr_at (g := g) (d := d1) ho_l
  rcases k with _ | k
  · rw [Sort.heapBuild] at hd1
    refine kont_of_hx cx_ok hb 200 ?_
    simp only [go_sem, simprocAttr, hgetA, hgetL, hgetLk, hsetA, hsetL, hsetLk, List.length_append, List.length_set, List.append_assoc, List.set_set, hl1, show ((0 : Nat) : Int) - 1 = -1 from rfl, show decide ((0 : Int) ≤ -1) = false from rfl, e1]
    refine kont_of_hx cx_ok hb 200 ?_
    simp only [go_sem, simprocAttr, hgetA, hgetL, hgetLk, hsetA, hsetL, hsetLk, List.length_append, List.length_set, List.append_assoc, List.set_set, e1]
    rw [← hd1]
    refine kont_for (fun m st => ∃ (d2 : Array Int) (k : Nat), d2.size = d.size ∧ k + m = b - a ∧ Sort.heapPop ltI a k d2 = Sort.heapPop ltI a (b - a) d1 ∧ st = ⟨[(0, .ref lo g 0 d.size), (6, dint a), (7, dint 0), (10, dint ((k : Int) - 1))], h.set lo (arrO g d2)⟩) (b - a) (s0 := ⟨[(0, .ref lo g 0 d.size), (6, dint a), (7, dint 0), (10, dint (((b - a : Nat) : Int) - 1))], h.set lo (arrO g d1)⟩) ?_ ⟨d1, _, hs1, rfl, rfl, rfl⟩ ?_
    · rw [show (((b - a : Nat) : Int) - 1) = ((b - a - 1 : Nat) : Int) by omega]
      exact Weak.frame (by simp only [go_sem, simprocAttr])
    rintro n _ hn ⟨d2, k, hs2, hk2, hd2, rfl⟩
    have hl2 := arr_at (g := g) (d := d2) ho_l
    generalize hH : h.set lo (arrO g d2) = H at hl2
    have hl2_l := hlt hl2
    rcases k with _ | k
    · rw [Sort.heapPop] at hd2
      refine kont_of_hx cx_ok hb 200 ?_
      simp only [go_sem, simprocAttr, hgetA, hgetL, hgetLk, hsetA, hsetL, hsetLk, List.length_append, List.length_set, List.append_assoc, List.set_set, hl2, show ((0 : Nat) : Int) - 1 = -1 from rfl, show decide ((0 : Int) ≤ -1) = false from rfl]
      exact hH.symm.trans (congrArg (fun x => h.set lo (arrO g x)) hd2)
    · rw [Sort.heapPop] at hd2
      have v0 : (((k + 1 : Nat) : Int) - 1) = (k : Int) := by omega
      have v1 : IntKind.i64.wrap ((a : Int) + k) = ((a + k : Nat) : Int) := by rw [wrap64 (by omega) (by omega)]; omega
      have v2 : IntKind.i64.wrap ((k : Int) - 1) = (k : Int) - 1 := wrap64 (by omega) (by omega)
      have p0 : a < d.size := by omega
      have p1 : a + k < d.size := by omega
      refine kont_of_hx cx_ok hb 200 ?_
      simp only [go_sem, simprocAttr, hgetA, hgetL, hgetLk, hsetA, hsetL, hsetLk, List.length_append, List.length_set, List.append_assoc, List.set_set, hl2, hl2_l, v0, nat_ge0]
      refine kont_haxFJ (⟨[(0, .ref lo g 0 d.size), (6, dint a), (7, dint 0), (10, dint k)], h.set lo (arrO g (Sort.swp d2 a (a + k)))⟩) cx_ok hb mixed [(0, true), (1, true), (2, true), (3, true), (4, true), (6, true), (7, true), (8, true), (9, true), (10, true), (11, true), (12, true), (13, true), (14, true), (15, true), (16, true)] [5, 17, 18, 19] (by kernel_rfl) (by kernel_rfl) (fun s hw => kont_weak hw rfl ?_) ?_
      rotate_left
      · simp only [go_sem, simprocAttr, hgetA, hgetL, hgetLk, hsetA, hsetL, hsetLk, List.length_append, List.length_set, List.append_assoc, List.set_set, hl2, hl2_l, v1, p0, p1, hs2, hgetS hl2_l, List.set_set, dropB]
        rw [obj_swp g d2 _ _ _ hs2 p0 p1, ← hH, List.set_set]
        repeat' refine And.intro ?_ ?_
        all_goals exact Weak.frame (by simp only [go_sem, simprocAttr])
      refine kont_of_hx cx_ok hb 200 ?_
      simp only [go_sem, simprocAttr]
      have hs3 : (Sort.swp d2 a (a + k)).size = d.size := by rw [swp_size, hs2]
      refine kont_callH hb fn136 rfl ?_ (hs3 ▸ siftDown_ok (arr_at (g := g) (d := Sort.swp d2 a (a + k)) ho_l) k a 0 (by omega) (by omega) (by omega)) rfl fun d h hR => ?_
      · simp only [go_sem, simprocAttr, List.set_set, v2]
      obtain ⟨rfl, rfl⟩ := hR
      refine kont_of_hx cx_ok hb 200 ?_
      simp only [go_sem, simprocAttr, List.set_set, v2]
      refine ⟨by omega, _, ?_, Sort.siftDown ltI k a 0 (Sort.swp d2 a (a + k)), k, by rw [siftDown_sz, hs3], by omega, hd2, rfl⟩
      exact Weak.frame (by simp only [go_sem, simprocAttr])
  · rw [Sort.heapBuild] at hd1
    have v0 : (((k + 1 : Nat) : Int) - 1) = (k : Int) := by omega
    have v2 : IntKind.i64.wrap ((k : Int) - 1) = (k : Int) - 1 := wrap64 (by omega) (by omega)
    refine kont_of_hx cx_ok hb 200 ?_
    simp only [go_sem, simprocAttr, hgetA, hgetL, hgetLk, hsetA, hsetL, hsetLk, List.length_append, List.length_set, List.append_assoc, List.set_set, hl1, v0, nat_ge0]
    refine kont_callH hb fn136 rfl ?_ (hs1 ▸ siftDown_ok hl1 (b - a) a k (by omega) (by omega) (by omega)) rfl fun d h hR => ?_
    · simp only [go_sem, simprocAttr, List.set_set, v2]
    obtain ⟨rfl, rfl⟩ := hR
    refine kont_of_hx cx_ok hb 200 ?_
    simp only [go_sem, simprocAttr, List.set_set, v2]
    refine ⟨by omega, _, ?_, Sort.siftDown ltI (b - a) a k d1, k, by rw [siftDown_sz, hs1], by omega, hd1, rfl⟩
    exact Weak.frame (by simp only [go_sem, simprocAttr])
end
end Go.Fg.X
/- The sort of words of 64 bits: walked (7): both partitions. Conditions: places within the array. -/
namespace Go.Fg.X
open Go.Proofs Go.Fg
set_option maxRecDepth 100000
set_option maxHeartbeats 4000000
set_option linter.unusedSimpArgs false
set_option linter.unusedVariables false
theorem scanDown_eq (p : Int → Bool) (d : Array Int) (i j : Nat) (hi : 0 < i) : Sort.scanDown p d i j = if i ≤ j && p d[j]! then Sort.scanDown p d i (j - 1) else j := by
  cases j with
  | zero =>
    rw [Sort.scanDown, if_neg]
    simp; omega
  | succ j => rw [Sort.scanDown]; rfl
theorem scans_ord (p q : Int → Bool) (hq : ∀ x, q x = !p x) (d : Array Int) (i j : Nat) (ha : 0 < i) (hij : i ≤ j + 1) (h : ¬ Sort.scanUp p d j i > Sort.scanDown q d (Sort.scanUp p d j i) j) :
    Sort.scanUp p d j i < Sort.scanDown q d (Sort.scanUp p d j i) j := by
  obtain ⟨u1, u2, u3, u4⟩ := Sort.scanUp_spec p d j _ i rfl
  obtain ⟨v1, v2, v3, v4⟩ := Sort.scanDown_spec q d (Sort.scanUp p d j i) j
  rcases Nat.lt_or_ge (Sort.scanUp p d j i) (Sort.scanDown q d (Sort.scanUp p d j i) j) with h' | h'
  · exact h'
  · have e : Sort.scanUp p d j i = Sort.scanDown q d (Sort.scanUp p d j i) j := by omega
    have f1 := u4 (by omega)
    have f2 := v4 (by omega) (by omega)
    rw [hq, ← e, f1] at f2
    cases f2
theorem partEq_size (a : Nat) : ∀ (n i j : Nat) (d : Array Int), j + 1 - i ≤ n → (Sort.partEqLoop ltI a i j d).2.size = d.size
  | n, i, j, d, hn => by
    rw [Sort.partEqLoop_eq]
    split
    · rfl
    · rename_i h
      have := Sort.partEqLoop_guard ltI a i j d h
      obtain ⟨n', rfl⟩ : ∃ n', n = n' + 1 := ⟨n - 1, by omega⟩
      rw [partEq_size a n' _ _ _ (by omega), swp_size]
theorem part_size (a : Nat) : ∀ (n i j : Nat) (d : Array Int), j + 1 - i ≤ n → (Sort.partLoop ltI a i j d).2.size = d.size
  | n, i, j, d, hn => by
    rw [Sort.partLoop_eq]
    split
    · rfl
    · rename_i h
      have := Sort.partLoop_guard ltI a i j d h
      obtain ⟨n', rfl⟩ : ∃ n', n = n' + 1 := ⟨n - 1, by omega⟩
      rw [part_size a n' _ _ _ (by omega), swp_size]
section
variable {h : List Ob} {lo g : Nat} {d : Array Int} (ho : h[lo]? = some (arrO g d))
include ho
theorem partEq_ok (a b pv : Nat) (hab : a < b) (hb0 : b ≤ d.size) (hp : a ≤ pv) (hpb : pv < b) (hz : d.size < 1000000000) :
    MFn Tryz.prog 128 h [.ref lo g 0 d.size, dint a, dint b, dint pv] (fun dd h' => dd = dint (Sort.partitionEqual ltI d a b pv).1 ∧ h' = h.set lo (arrO g (Sort.partitionEqual ltI d a b pv).2)) := by
  have e0 : IntKind.i64.wrap ((a : Int) + 1) = ((a + 1 : Nat) : Int) := by rw [wrap64 (by omega) (by omega)]; omega
  have e1 : IntKind.i64.wrap ((b : Int) - 1) = ((b - 1 : Nat) : Int) := by rw [wrap64 (by omega) (by omega)]; omega
  have pa : a < d.size := by omega
  have pp : pv < d.size := by omega
  have hsd : d.size = d.size := rfl
  refine MFn_hx cx_ok 200 Tryz.func128 rfl Tryz.ntmps128 Tryz.results128 rfl fun base w pl hb => ?_
  have ho_l := hlt ho
  simp only [go_sem, simprocAttr, hgetA, hgetL, hgetLk, hsetA, hsetL, hsetLk, List.length_append, List.length_set, List.append_assoc, List.set_set, ho, ho_l]
  refine kont_hax cx_ok hb 200 mixed [(0, true), (1, true), (2, true), (3, true), (4, true), (5, true), (6, true), (7, true), (8, true), (9, true), (10, true), (11, true), (12, true), (13, false), (14, true), (15, false)] (by kernel_rfl) (by kernel_rfl) ?_
  simp only [go_sem, simprocAttr, hgetA, hgetL, hgetLk, hsetA, hsetL, hsetLk, List.length_append, List.length_set, List.append_assoc, List.set_set, ho, ho_l, pa, pp, hgetS ho_l, List.set_set, dropB]
  rw [obj_swp g d _ _ _ rfl pa pp]
  refine kont_of_hx cx_ok hb 200 ?_
  simp only [go_sem, simprocAttr, e0, e1]
  unfold Sort.partitionEqual
  refine kont_for (fun m st => ∃ (d1 : Array Int) (i j : Nat), d1.size = d.size ∧ a < i ∧ i ≤ j + 1 ∧ j < b ∧ m + (j + 1 - i) ≤ b ∧ Sort.partEqLoop ltI a i j d1 = Sort.partEqLoop ltI a (a + 1) (b - 1) (Sort.swp d a pv) ∧ st = ⟨[(0, .ref lo g 0 d.size), (1, dint a), (9, dint i), (10, dint j)], h.set lo (arrO g d1)⟩) b (s0 := ⟨[(0, .ref lo g 0 d.size), (1, dint a), (9, dint (a + 1 : Nat)), (10, dint (b - 1 : Nat))], h.set lo (arrO g (Sort.swp d a pv))⟩) (Weak.frame (by simp only [go_sem, simprocAttr])) ⟨_, a + 1, b - 1, swp_size d a pv, by omega, by omega, by omega, by omega, rfl, rfl⟩ ?_
  rintro m _ hm ⟨d1, i, j, hsd1, hai, hij, hjb, hmm, hpl, rfl⟩
  have hld1 := arr_at (g := g) (d := d1) ho_l
  generalize hH : h.set lo (arrO g d1) = H at hld1
  have hld1_l := hlt hld1
  rw [Sort.partEqLoop_eq] at hpl
  have hord := scans_ord (fun x => !ltI d1[a]! x) (fun x => ltI d1[a]! x) (fun x => by simp) d1 i j (by omega) hij
  obtain ⟨u1, u2, u3, u4⟩ := Sort.scanUp_spec (fun x => !ltI d1[a]! x) d1 j _ i rfl
  have u5 := u2 hij
  generalize hi2 : Sort.scanUp (fun x => !ltI d1[a]! x) d1 j i = i2 at *
  obtain ⟨w1, w2, w3, w4⟩ := Sort.scanDown_spec (fun x => ltI d1[a]! x) d1 i2 j
  have w5 := w2 u5
  generalize hj2 : Sort.scanDown (fun x => ltI d1[a]! x) d1 i2 j = j2 at *
  refine kont_of_hx cx_ok hb 200 ?_
  simp only [go_sem, simprocAttr, hgetA, hgetL, hgetLk, hsetA, hsetL, hsetLk, List.length_append, List.length_set, List.append_assoc, List.set_set]
  refine kont_for (fun m st => ∃ xa : Nat, xa = i + m ∧ xa ≤ j + 1 ∧ Sort.scanUp (fun x => !ltI d1[a]! x) d1 j xa = i2 ∧ st = ⟨[(0, .ref lo g 0 d.size), (1, dint a), (9, dint xa), (10, dint j)], H⟩) d.size (s0 := ⟨[(0, .ref lo g 0 d.size), (1, dint a), (9, dint i), (10, dint j)], H⟩) (Weak.frame (by simp only [go_sem, simprocAttr])) ⟨i, rfl, by omega, hi2, rfl⟩ ?_
  rintro ma _ hma ⟨xa, hxa, hya, hza, rfl⟩
  have ga : xa ≤ j → xa < d.size := by omega
  rw [Sort.scanUp] at hza
  refine kont_of_hx cx_ok hb 200 ?_
  simp only [go_sem, simprocAttr, hgetA, hgetL, hgetLk, hsetA, hsetL, hsetLk, List.length_append, List.length_set, List.append_assoc, List.set_set, hld1, hld1_l]
  first | refine kont_seq ?_ | skip
  refine kont_joinF [0, 1, 9, 10] [(43, dbool (decide (xa ≤ j) && !ltI d1[a]! d1[xa]!))] rfl ?_ ?_
  · by_cases ca : xa ≤ j
    · have ea : decide (xa ≤ j) = true := decide_eq_true ca
      have g2a := ga ca
      refine kont_hax cx_ok hb 200 mixed [(0, true), (1, true), (2, true), (3, true), (4, true), (5, true), (6, true), (7, true), (8, true), (9, true), (10, true), (11, true), (12, false), (13, true), (14, true)] (by kernel_rfl) (by kernel_rfl) ?_
      simp only [go_sem, simprocAttr, hgetA, hgetL, hgetLk, hsetA, hsetL, hsetLk, List.length_append, List.length_set, List.append_assoc, List.set_set, hld1, hld1_l, hsd1, ea, pa, g2a]
      refine AX_call hb fn127 rfl ?_ (lessU_ok d1[a]! d1[xa]!) (Ret.flat rfl) rfl fun d h hR => ?_
      · simp only [go_sem, simprocAttr]
      obtain ⟨rfl, rfl⟩ := hR
      refine AX_of_hax cx_ok hb ?_
      simp only [go_sem, simprocAttr]
      exact Weak.frame (by simp only [go_sem, simprocAttr])
    · have ea : decide (xa ≤ j) = false := decide_eq_false ca
      refine kont_hax cx_ok hb 200 mixed [(0, true), (1, true), (2, true), (3, true), (4, true), (5, true), (6, true), (7, true), (8, true), (9, true), (10, true), (11, true), (12, false), (13, true), (14, true)] (by kernel_rfl) (by kernel_rfl) ?_
      simp only [go_sem, simprocAttr, hgetA, hgetL, hgetLk, hsetA, hsetL, hsetLk, List.length_append, List.length_set, List.append_assoc, List.set_set, hld1, hld1_l, hsd1, ea, pa]
      exact Weak.frame (by simp only [go_sem, simprocAttr])
  cases hB : (decide (xa ≤ j) && !ltI d1[a]! d1[xa]!)
  · rw [hB, if_neg (by decide)] at hza
    refine kont_of_hx cx_ok hb 200 ?_
    simp only [go_sem, simprocAttr, hgetA, hgetL, hgetLk, hsetA, hsetL, hsetLk, List.length_append, List.length_set, List.append_assoc, List.set_set, hB]
    subst hza
    refine kont_of_hx cx_ok hb 200 ?_
    simp only [go_sem, simprocAttr, hgetA, hgetL, hgetLk, hsetA, hsetL, hsetLk, List.length_append, List.length_set, List.append_assoc, List.set_set]
    refine kont_for (fun m st => ∃ xb : Nat, xb + m = j ∧ xa ≤ xb + 1 ∧ Sort.scanDown (fun x => ltI d1[a]! x) d1 xa xb = j2 ∧ st = ⟨[(0, .ref lo g 0 d.size), (1, dint a), (9, dint xa), (10, dint xb)], H⟩) d.size (s0 := ⟨[(0, .ref lo g 0 d.size), (1, dint a), (9, dint xa), (10, dint j)], H⟩) (Weak.frame (by simp only [go_sem, simprocAttr])) ⟨j, rfl, by omega, hj2, rfl⟩ ?_
    rintro mb _ hmb ⟨xb, hxb, hyb, hzb, rfl⟩
    have gb : xa ≤ xb → xb < d.size := by omega
    rw [scanDown_eq _ _ _ _ (by omega)] at hzb
    refine kont_of_hx cx_ok hb 200 ?_
    simp only [go_sem, simprocAttr, hgetA, hgetL, hgetLk, hsetA, hsetL, hsetLk, List.length_append, List.length_set, List.append_assoc, List.set_set, hld1, hld1_l]
    first | refine kont_seq ?_ | skip
    refine kont_joinF [0, 1, 9, 10] [(59, dbool (decide (xa ≤ xb) && ltI d1[a]! d1[xb]!))] rfl ?_ ?_
    · by_cases cb : xa ≤ xb
      · have eb : decide (xa ≤ xb) = true := decide_eq_true cb
        have g2b := gb cb
        refine kont_hax cx_ok hb 200 mixed [(0, true), (1, true), (2, true), (3, true), (4, true), (5, true), (6, true), (7, true), (8, true), (9, true), (10, true), (11, true), (12, false), (13, true)] (by kernel_rfl) (by kernel_rfl) ?_
        simp only [go_sem, simprocAttr, hgetA, hgetL, hgetLk, hsetA, hsetL, hsetLk, List.length_append, List.length_set, List.append_assoc, List.set_set, hld1, hld1_l, hsd1, eb, pa, g2b]
        refine AX_call hb fn127 rfl ?_ (lessU_ok d1[a]! d1[xb]!) (Ret.flat rfl) rfl fun d h hR => ?_
        · simp only [go_sem, simprocAttr]
        obtain ⟨rfl, rfl⟩ := hR
        refine AX_of_hax cx_ok hb ?_
        simp only [go_sem, simprocAttr]
        exact Weak.frame (by simp only [go_sem, simprocAttr])
      · have eb : decide (xa ≤ xb) = false := decide_eq_false cb
        refine kont_hax cx_ok hb 200 mixed [(0, true), (1, true), (2, true), (3, true), (4, true), (5, true), (6, true), (7, true), (8, true), (9, true), (10, true), (11, true), (12, false), (13, true)] (by kernel_rfl) (by kernel_rfl) ?_
        simp only [go_sem, simprocAttr, hgetA, hgetL, hgetLk, hsetA, hsetL, hsetLk, List.length_append, List.length_set, List.append_assoc, List.set_set, hld1, hld1_l, hsd1, eb, pa]
        exact Weak.frame (by simp only [go_sem, simprocAttr])
    cases hB : (decide (xa ≤ xb) && ltI d1[a]! d1[xb]!)
    · rw [hB, if_neg (by decide)] at hzb
      refine kont_of_hx cx_ok hb 200 ?_
      simp only [go_sem, simprocAttr, hgetA, hgetL, hgetLk, hsetA, hsetL, hsetLk, List.length_append, List.length_set, List.append_assoc, List.set_set, hB]
      have vy1 : IntKind.i64.wrap ((xa : Int) + 1) = ((xa + 1 : Nat) : Int) := by rw [wrap64 (by omega) (by omega)]; omega
      subst hzb
      by_cases cg : xb < xa
      · have eg : decide (xb < xa) = true := decide_eq_true cg
        rw [if_pos cg] at hpl
        refine kont_of_hx cx_ok hb 200 ?_
        simp only [go_sem, simprocAttr, hgetA, hgetL, hgetLk, hsetA, hsetL, hsetLk, List.length_append, List.length_set, List.append_assoc, List.set_set, eg]
        refine kont_of_hx cx_ok hb 200 ?_
        simp only [go_sem, simprocAttr, hgetA, hgetL, hgetLk, hsetA, hsetL, hsetLk, List.length_append, List.length_set, List.append_assoc, List.set_set]
        rw [← hpl, ← hH]
        first | exact ⟨rfl, rfl⟩ | rfl
      · have eg : decide (xb < xa) = false := decide_eq_false cg
        have clt := hord cg
        have px : xa < d.size := by omega
        have py : xb < d.size := by omega
        have vy2 : IntKind.i64.wrap ((xb : Int) - 1) = ((xb - 1 : Nat) : Int) := by rw [wrap64 (by omega) (by omega)]; omega
        rw [if_neg cg] at hpl
        refine kont_of_hx cx_ok hb 200 ?_
        simp only [go_sem, simprocAttr, hgetA, hgetL, hgetLk, hsetA, hsetL, hsetLk, List.length_append, List.length_set, List.append_assoc, List.set_set, eg]
        refine kont_hax cx_ok hb 200 mixed [(0, true), (1, true), (2, true), (3, true), (4, true), (5, true), (6, true), (7, true), (8, true), (9, true), (10, true), (11, true), (12, true), (13, false), (14, true), (15, false)] (by kernel_rfl) (by kernel_rfl) ?_
        simp only [go_sem, simprocAttr, hgetA, hgetL, hgetLk, hsetA, hsetL, hsetLk, List.length_append, List.length_set, List.append_assoc, List.set_set, hld1, hld1_l, hsd1, px, py, hgetS hld1_l, List.set_set, dropB, vy1, vy2]
        rw [obj_swp g d1 _ _ _ hsd1 px py]
        refine ⟨by omega, _, ?_, Sort.swp d1 xa xb, xa + 1, xb - 1, by rw [swp_size, hsd1], by omega, by omega, by omega, by omega, hpl, rfl⟩
        rw [← hH, List.set_set]
        exact Weak.frame (by simp only [go_sem, simprocAttr])
    · rw [hB, if_pos rfl] at hzb
      have lqb : xa ≤ xb := by
        rw [Bool.and_eq_true] at hB
        exact of_decide_eq_true hB.1
      have vb : IntKind.i64.wrap ((xb : Int) - 1) = ((xb - 1 : Nat) : Int) := by rw [wrap64 (by omega) (by omega)]; omega
      refine kont_of_hx cx_ok hb 200 ?_
      simp only [go_sem, simprocAttr, hgetA, hgetL, hgetLk, hsetA, hsetL, hsetLk, List.length_append, List.length_set, List.append_assoc, List.set_set, hB, vb]
      refine ⟨by omega, _, ?_, xb - 1, by omega, by omega, hzb, rfl⟩
      exact Weak.frame (by simp only [go_sem, simprocAttr])
  · rw [hB, if_pos rfl] at hza
    have lqa : xa ≤ j := by
      rw [Bool.and_eq_true] at hB
      exact of_decide_eq_true hB.1
    have va : IntKind.i64.wrap ((xa : Int) + 1) = ((xa + 1 : Nat) : Int) := by rw [wrap64 (by omega) (by omega)]; omega
    refine kont_of_hx cx_ok hb 200 ?_
    simp only [go_sem, simprocAttr, hgetA, hgetL, hgetLk, hsetA, hsetL, hsetLk, List.length_append, List.length_set, List.append_assoc, List.set_set, hB, va]
    refine ⟨by omega, _, ?_, xa + 1, by omega, by omega, hza, rfl⟩
    exact Weak.frame (by simp only [go_sem, simprocAttr])
omit ho in
theorem part_eq0 (d : Array Int) (a b pv : Nat) : Sort.partition ltI d a b pv =
    if Sort.scanUp (fun x => ltI x (Sort.swp d a pv)[a]!) (Sort.swp d a pv) (b - 1) (a + 1) > Sort.scanDown (fun x => !ltI x (Sort.swp d a pv)[a]!) (Sort.swp d a pv) (Sort.scanUp (fun x => ltI x (Sort.swp d a pv)[a]!) (Sort.swp d a pv) (b - 1) (a + 1)) (b - 1) then
      (Sort.scanDown (fun x => !ltI x (Sort.swp d a pv)[a]!) (Sort.swp d a pv) (Sort.scanUp (fun x => ltI x (Sort.swp d a pv)[a]!) (Sort.swp d a pv) (b - 1) (a + 1)) (b - 1), true, Sort.swp (Sort.swp d a pv) (Sort.scanDown (fun x => !ltI x (Sort.swp d a pv)[a]!) (Sort.swp d a pv) (Sort.scanUp (fun x => ltI x (Sort.swp d a pv)[a]!) (Sort.swp d a pv) (b - 1) (a + 1)) (b - 1)) a)
    else ((Sort.partLoop ltI a (Sort.scanUp (fun x => ltI x (Sort.swp d a pv)[a]!) (Sort.swp d a pv) (b - 1) (a + 1) + 1) (Sort.scanDown (fun x => !ltI x (Sort.swp d a pv)[a]!) (Sort.swp d a pv) (Sort.scanUp (fun x => ltI x (Sort.swp d a pv)[a]!) (Sort.swp d a pv) (b - 1) (a + 1)) (b - 1) - 1) (Sort.swp (Sort.swp d a pv) (Sort.scanUp (fun x => ltI x (Sort.swp d a pv)[a]!) (Sort.swp d a pv) (b - 1) (a + 1)) (Sort.scanDown (fun x => !ltI x (Sort.swp d a pv)[a]!) (Sort.swp d a pv) (Sort.scanUp (fun x => ltI x (Sort.swp d a pv)[a]!) (Sort.swp d a pv) (b - 1) (a + 1)) (b - 1)))).1, false,
      Sort.swp (Sort.partLoop ltI a (Sort.scanUp (fun x => ltI x (Sort.swp d a pv)[a]!) (Sort.swp d a pv) (b - 1) (a + 1) + 1) (Sort.scanDown (fun x => !ltI x (Sort.swp d a pv)[a]!) (Sort.swp d a pv) (Sort.scanUp (fun x => ltI x (Sort.swp d a pv)[a]!) (Sort.swp d a pv) (b - 1) (a + 1)) (b - 1) - 1) (Sort.swp (Sort.swp d a pv) (Sort.scanUp (fun x => ltI x (Sort.swp d a pv)[a]!) (Sort.swp d a pv) (b - 1) (a + 1)) (Sort.scanDown (fun x => !ltI x (Sort.swp d a pv)[a]!) (Sort.swp d a pv) (Sort.scanUp (fun x => ltI x (Sort.swp d a pv)[a]!) (Sort.swp d a pv) (b - 1) (a + 1)) (b - 1)))).2
        (Sort.partLoop ltI a (Sort.scanUp (fun x => ltI x (Sort.swp d a pv)[a]!) (Sort.swp d a pv) (b - 1) (a + 1) + 1) (Sort.scanDown (fun x => !ltI x (Sort.swp d a pv)[a]!) (Sort.swp d a pv) (Sort.scanUp (fun x => ltI x (Sort.swp d a pv)[a]!) (Sort.swp d a pv) (b - 1) (a + 1)) (b - 1) - 1) (Sort.swp (Sort.swp d a pv) (Sort.scanUp (fun x => ltI x (Sort.swp d a pv)[a]!) (Sort.swp d a pv) (b - 1) (a + 1)) (Sort.scanDown (fun x => !ltI x (Sort.swp d a pv)[a]!) (Sort.swp d a pv) (Sort.scanUp (fun x => ltI x (Sort.swp d a pv)[a]!) (Sort.swp d a pv) (b - 1) (a + 1)) (b - 1)))).1 a) := rfl
theorem partition_ok (a b pv : Nat) (hab : a + 1 < b) (hb0 : b ≤ d.size) (hp : a ≤ pv) (hpb : pv < b) (hz : d.size < 1000000000) :
    MFn Tryz.prog 129 h [.ref lo g 0 d.size, dint a, dint b, dint pv] (fun dd h' => dd = .tup [dint (Sort.partition ltI d a b pv).1, dbool (Sort.partition ltI d a b pv).2.1] ∧ h' = h.set lo (arrO g (Sort.partition ltI d a b pv).2.2)) := by
  have e0 : IntKind.i64.wrap ((a : Int) + 1) = ((a + 1 : Nat) : Int) := by rw [wrap64 (by omega) (by omega)]; omega
  have e1 : IntKind.i64.wrap ((b : Int) - 1) = ((b - 1 : Nat) : Int) := by rw [wrap64 (by omega) (by omega)]; omega
  have pa : a < d.size := by omega
  have pp : pv < d.size := by omega
  refine MFn_hx cx_ok 200 Tryz.func129 rfl Tryz.ntmps129 Tryz.results129 rfl fun base w pl hb => ?_
  have ho_l := hlt ho
  simp only [go_sem, simprocAttr, hgetA, hgetL, hgetLk, hsetA, hsetL, hsetLk, List.length_append, List.length_set, List.append_assoc, List.set_set, ho, ho_l]
  refine kont_hax cx_ok hb 200 mixed [(0, true), (1, true), (2, true), (3, true), (4, true), (5, true), (6, true), (7, true), (8, true), (9, true), (10, true), (11, true), (12, true), (13, false), (14, true), (15, false)] (by kernel_rfl) (by kernel_rfl) ?_
  simp only [go_sem, simprocAttr, hgetA, hgetL, hgetLk, hsetA, hsetL, hsetLk, List.length_append, List.length_set, List.append_assoc, List.set_set, ho, ho_l, pa, pp, hgetS ho_l, List.set_set, dropB]
  rw [obj_swp g d _ _ _ rfl pa pp, part_eq0]
  refine kont_of_hx cx_ok hb 200 ?_
  simp only [go_sem, simprocAttr, e0, e1]
  generalize hdk : Sort.swp d a pv = dk at *
  have hsdk : dk.size = d.size := by rw [← hdk, swp_size]
  have hldk := arr_at (g := g) (d := dk) ho_l
  generalize hHk : h.set lo (arrO g dk) = Hk at hldk
  have hldk_l := hlt hldk
  have hord0 := scans_ord (fun x => ltI x dk[a]!) (fun x => !ltI x dk[a]!) (fun x => rfl) dk (a + 1) (b - 1) (by omega) (by omega)
  obtain ⟨t1, t2, t3, t4⟩ := Sort.scanUp_spec (fun x => ltI x dk[a]!) dk (b - 1) _ (a + 1) rfl
  have t5 := t2 (by omega)
  generalize hi2 : Sort.scanUp (fun x => ltI x dk[a]!) dk (b - 1) (a + 1) = i2 at *
  obtain ⟨s1, s2, s3, s4⟩ := Sort.scanDown_spec (fun x => !ltI x dk[a]!) dk i2 (b - 1)
  have s5 := s2 t5
  generalize hj2 : Sort.scanDown (fun x => !ltI x dk[a]!) dk i2 (b - 1) = j2 at *
  generalize hI0 : a + 1 = I0 at *
  generalize hJ0 : b - 1 = J0 at *
  rw [show h.set lo (⟨.arr, g, 1, dk.size, rowA dk⟩ : Ob) = Hk from hHk]
  refine kont_for (fun m st => ∃ xe : Nat, xe = I0 + m ∧ xe ≤ J0 + 1 ∧ Sort.scanUp (fun x => ltI x dk[a]!) dk J0 xe = i2 ∧ st = ⟨[(0, .ref lo g 0 d.size), (1, dint a), (10, dint xe), (11, dint J0)], Hk⟩) d.size (s0 := ⟨[(0, .ref lo g 0 d.size), (1, dint a), (10, dint I0), (11, dint J0)], Hk⟩) (Weak.frame (by simp only [go_sem, simprocAttr])) ⟨I0, rfl, by omega, hi2, rfl⟩ ?_
  rintro me _ hme ⟨xe, hxe, hye, hze, rfl⟩
  have ge : xe ≤ J0 → xe < d.size := by omega
  rw [Sort.scanUp] at hze
  refine kont_of_hx cx_ok hb 200 ?_
  simp only [go_sem, simprocAttr, hgetA, hgetL, hgetLk, hsetA, hsetL, hsetLk, List.length_append, List.length_set, List.append_assoc, List.set_set, hldk, hldk_l]
  first | refine kont_seq ?_ | skip
  refine kont_joinF [0, 1, 10, 11] [(43, dbool (decide (xe ≤ J0) && ltI dk[xe]! dk[a]!))] rfl ?_ ?_
  · by_cases ce : xe ≤ J0
    · have ee : decide (xe ≤ J0) = true := decide_eq_true ce
      have g2e := ge ce
      refine kont_hax cx_ok hb 200 mixed [(0, true), (1, true), (2, true), (3, true), (4, true), (5, true), (6, true), (7, true), (8, true), (9, true), (10, true), (11, true), (12, false), (13, true)] (by kernel_rfl) (by kernel_rfl) ?_
      simp only [go_sem, simprocAttr, hgetA, hgetL, hgetLk, hsetA, hsetL, hsetLk, List.length_append, List.length_set, List.append_assoc, List.set_set, hldk, hldk_l, hsdk, ee, pa, g2e]
      refine AX_call hb fn127 rfl ?_ (lessU_ok dk[xe]! dk[a]!) (Ret.flat rfl) rfl fun d h hR => ?_
      · simp only [go_sem, simprocAttr]
      obtain ⟨rfl, rfl⟩ := hR
      refine AX_of_hax cx_ok hb ?_
      simp only [go_sem, simprocAttr]
      exact Weak.frame (by simp only [go_sem, simprocAttr])
    · have ee : decide (xe ≤ J0) = false := decide_eq_false ce
      refine kont_hax cx_ok hb 200 mixed [(0, true), (1, true), (2, true), (3, true), (4, true), (5, true), (6, true), (7, true), (8, true), (9, true), (10, true), (11, true), (12, false), (13, true)] (by kernel_rfl) (by kernel_rfl) ?_
      simp only [go_sem, simprocAttr, hgetA, hgetL, hgetLk, hsetA, hsetL, hsetLk, List.length_append, List.length_set, List.append_assoc, List.set_set, hldk, hldk_l, hsdk, ee, pa]
      exact Weak.frame (by simp only [go_sem, simprocAttr])
  cases hB : (decide (xe ≤ J0) && ltI dk[xe]! dk[a]!)
  · rw [hB, if_neg (by decide)] at hze
    refine kont_of_hx cx_ok hb 200 ?_
    simp only [go_sem, simprocAttr, hgetA, hgetL, hgetLk, hsetA, hsetL, hsetLk, List.length_append, List.length_set, List.append_assoc, List.set_set, hB]
    subst hze
    refine kont_of_hx cx_ok hb 200 ?_
    simp only [go_sem, simprocAttr, hgetA, hgetL, hgetLk, hsetA, hsetL, hsetLk, List.length_append, List.length_set, List.append_assoc, List.set_set]
    refine kont_for (fun m st => ∃ xf : Nat, xf + m = J0 ∧ xe ≤ xf + 1 ∧ Sort.scanDown (fun x => !ltI x dk[a]!) dk xe xf = j2 ∧ st = ⟨[(0, .ref lo g 0 d.size), (1, dint a), (10, dint xe), (11, dint xf)], Hk⟩) d.size (s0 := ⟨[(0, .ref lo g 0 d.size), (1, dint a), (10, dint xe), (11, dint J0)], Hk⟩) (Weak.frame (by simp only [go_sem, simprocAttr])) ⟨J0, rfl, by omega, hj2, rfl⟩ ?_
    rintro mf _ hmf ⟨xf, hxf, hyf, hzf, rfl⟩
    have gf : xe ≤ xf → xf < d.size := by omega
    rw [scanDown_eq _ _ _ _ (by omega)] at hzf
    refine kont_of_hx cx_ok hb 200 ?_
    simp only [go_sem, simprocAttr, hgetA, hgetL, hgetLk, hsetA, hsetL, hsetLk, List.length_append, List.length_set, List.append_assoc, List.set_set, hldk, hldk_l]
    first | refine kont_seq ?_ | skip
    refine kont_joinF [0, 1, 10, 11] [(60, dbool (decide (xe ≤ xf) && !ltI dk[xf]! dk[a]!))] rfl ?_ ?_
    · by_cases cf : xe ≤ xf
      · have ef : decide (xe ≤ xf) = true := decide_eq_true cf
        have g2f := gf cf
        refine kont_hax cx_ok hb 200 mixed [(0, true), (1, true), (2, true), (3, true), (4, true), (5, true), (6, true), (7, true), (8, true), (9, true), (10, true), (11, true), (12, false), (13, true), (14, true)] (by kernel_rfl) (by kernel_rfl) ?_
        simp only [go_sem, simprocAttr, hgetA, hgetL, hgetLk, hsetA, hsetL, hsetLk, List.length_append, List.length_set, List.append_assoc, List.set_set, hldk, hldk_l, hsdk, ef, pa, g2f]
        refine AX_call hb fn127 rfl ?_ (lessU_ok dk[xf]! dk[a]!) (Ret.flat rfl) rfl fun d h hR => ?_
        · simp only [go_sem, simprocAttr]
        obtain ⟨rfl, rfl⟩ := hR
        refine AX_of_hax cx_ok hb ?_
        simp only [go_sem, simprocAttr]
        exact Weak.frame (by simp only [go_sem, simprocAttr])
      · have ef : decide (xe ≤ xf) = false := decide_eq_false cf
        refine kont_hax cx_ok hb 200 mixed [(0, true), (1, true), (2, true), (3, true), (4, true), (5, true), (6, true), (7, true), (8, true), (9, true), (10, true), (11, true), (12, false), (13, true), (14, true)] (by kernel_rfl) (by kernel_rfl) ?_
        simp only [go_sem, simprocAttr, hgetA, hgetL, hgetLk, hsetA, hsetL, hsetLk, List.length_append, List.length_set, List.append_assoc, List.set_set, hldk, hldk_l, hsdk, ef, pa]
        exact Weak.frame (by simp only [go_sem, simprocAttr])
    cases hB : (decide (xe ≤ xf) && !ltI dk[xf]! dk[a]!)
    · rw [hB, if_neg (by decide)] at hzf
      refine kont_of_hx cx_ok hb 200 ?_
      simp only [go_sem, simprocAttr, hgetA, hgetL, hgetLk, hsetA, hsetL, hsetLk, List.length_append, List.length_set, List.append_assoc, List.set_set, hB]
      subst hzf
      have vz1 : IntKind.i64.wrap ((xe : Int) + 1) = ((xe + 1 : Nat) : Int) := by rw [wrap64 (by omega) (by omega)]; omega
      by_cases cg : xf < xe
      · have eg : decide (xf < xe) = true := decide_eq_true cg
        rw [if_pos cg]
        refine kont_of_hx cx_ok hb 200 ?_
        simp only [go_sem, simprocAttr, hgetA, hgetL, hgetLk, hsetA, hsetL, hsetLk, List.length_append, List.length_set, List.append_assoc, List.set_set, eg]
        have py : xf < d.size := by omega
        refine kont_hax cx_ok hb 200 mixed [(0, true), (1, true), (2, true), (3, true), (4, true), (5, true), (6, true), (7, true), (8, true), (9, true), (10, true), (11, true), (12, true), (13, false), (14, true), (15, false)] (by kernel_rfl) (by kernel_rfl) ?_
        simp only [go_sem, simprocAttr, hgetA, hgetL, hgetLk, hsetA, hsetL, hsetLk, List.length_append, List.length_set, List.append_assoc, List.set_set, hldk, hldk_l, hsdk, py, pa, hgetS hldk_l, List.set_set, dropB]
        rw [obj_swp g dk _ _ _ hsdk py pa]
        rw [← hHk, List.set_set]
        first | exact ⟨rfl, rfl⟩ | rfl
      · have eg : decide (xf < xe) = false := decide_eq_false cg
        have clt := hord0 cg
        have px : xe < d.size := by omega
        have py : xf < d.size := by omega
        have vz2 : IntKind.i64.wrap ((xf : Int) - 1) = ((xf - 1 : Nat) : Int) := by rw [wrap64 (by omega) (by omega)]; omega
        rw [if_neg cg]
        refine kont_of_hx cx_ok hb 200 ?_
        simp only [go_sem, simprocAttr, hgetA, hgetL, hgetLk, hsetA, hsetL, hsetLk, List.length_append, List.length_set, List.append_assoc, List.set_set, eg]
        refine kont_hax cx_ok hb 200 mixed [(0, true), (1, true), (2, true), (3, true), (4, true), (5, true), (6, true), (7, true), (8, true), (9, true), (10, true), (11, true), (12, true), (13, false), (14, true), (15, false)] (by kernel_rfl) (by kernel_rfl) ?_
        simp only [go_sem, simprocAttr, hgetA, hgetL, hgetLk, hsetA, hsetL, hsetLk, List.length_append, List.length_set, List.append_assoc, List.set_set, hldk, hldk_l, hsdk, px, py, hgetS hldk_l, List.set_set, dropB, vz1, vz2]
        rw [obj_swp g dk _ _ _ hsdk px py, ← hHk, List.set_set]
        refine kont_for (fun m st => ∃ (d1 : Array Int) (i j : Nat), d1.size = d.size ∧ a < i ∧ i ≤ j + 1 ∧ j < b ∧ m + (j + 1 - i) ≤ b ∧ Sort.partLoop ltI a i j d1 = Sort.partLoop ltI a (xe + 1) (xf - 1) (Sort.swp dk xe xf) ∧ st = ⟨[(0, .ref lo g 0 d.size), (1, dint a), (10, dint i), (11, dint j)], h.set lo (arrO g d1)⟩) b (s0 := ⟨[(0, .ref lo g 0 d.size), (1, dint a), (10, dint (xe + 1 : Nat)), (11, dint (xf - 1 : Nat))], h.set lo (arrO g (Sort.swp dk xe xf))⟩) (Weak.frame (by simp only [go_sem, simprocAttr])) ⟨_, xe + 1, xf - 1, by rw [swp_size, hsdk], by omega, by omega, by omega, by omega, rfl, rfl⟩ ?_
        rintro m _ hm ⟨d1, i, j, hsd1, hai, hij, hjb, hmm, hpl, rfl⟩
        have hld1 := arr_at (g := g) (d := d1) ho_l
        generalize hH : h.set lo (arrO g d1) = H at hld1
        have hld1_l := hlt hld1
        rw [Sort.partLoop_eq] at hpl
        have hord := scans_ord (fun x => ltI x d1[a]!) (fun x => !ltI x d1[a]!) (fun x => rfl) d1 i j (by omega) hij
        obtain ⟨u1, u2, u3, u4⟩ := Sort.scanUp_spec (fun x => ltI x d1[a]!) d1 j _ i rfl
        have u5 := u2 hij
        generalize hi2 : Sort.scanUp (fun x => ltI x d1[a]!) d1 j i = i2 at *
        obtain ⟨w1, w2, w3, w4⟩ := Sort.scanDown_spec (fun x => !ltI x d1[a]!) d1 i2 j
        have w5 := w2 u5
        generalize hj2 : Sort.scanDown (fun x => !ltI x d1[a]!) d1 i2 j = j2 at *
        refine kont_of_hx cx_ok hb 200 ?_
        simp only [go_sem, simprocAttr, hgetA, hgetL, hgetLk, hsetA, hsetL, hsetLk, List.length_append, List.length_set, List.append_assoc, List.set_set]
        refine kont_for (fun m st => ∃ xc : Nat, xc = i + m ∧ xc ≤ j + 1 ∧ Sort.scanUp (fun x => ltI x d1[a]!) d1 j xc = i2 ∧ st = ⟨[(0, .ref lo g 0 d.size), (1, dint a), (10, dint xc), (11, dint j)], H⟩) d.size (s0 := ⟨[(0, .ref lo g 0 d.size), (1, dint a), (10, dint i), (11, dint j)], H⟩) (Weak.frame (by simp only [go_sem, simprocAttr])) ⟨i, rfl, by omega, hi2, rfl⟩ ?_
        rintro mc _ hmc ⟨xc, hxc, hyc, hzc, rfl⟩
        have gc : xc ≤ j → xc < d.size := by omega
        rw [Sort.scanUp] at hzc
        refine kont_of_hx cx_ok hb 200 ?_
        simp only [go_sem, simprocAttr, hgetA, hgetL, hgetLk, hsetA, hsetL, hsetLk, List.length_append, List.length_set, List.append_assoc, List.set_set, hld1, hld1_l]
        first | refine kont_seq ?_ | skip
        refine kont_joinF [0, 1, 10, 11] [(112, dbool (decide (xc ≤ j) && ltI d1[xc]! d1[a]!))] rfl ?_ ?_
        · by_cases cc : xc ≤ j
          · have ec : decide (xc ≤ j) = true := decide_eq_true cc
            have g2c := gc cc
            refine kont_hax cx_ok hb 200 mixed [(0, true), (1, true), (2, true), (3, true), (4, true), (5, true), (6, true), (7, true), (8, true), (9, true), (10, true), (11, true), (12, false), (13, true)] (by kernel_rfl) (by kernel_rfl) ?_
            simp only [go_sem, simprocAttr, hgetA, hgetL, hgetLk, hsetA, hsetL, hsetLk, List.length_append, List.length_set, List.append_assoc, List.set_set, hld1, hld1_l, hsd1, ec, pa, g2c]
            refine AX_call hb fn127 rfl ?_ (lessU_ok d1[xc]! d1[a]!) (Ret.flat rfl) rfl fun d h hR => ?_
            · simp only [go_sem, simprocAttr]
            obtain ⟨rfl, rfl⟩ := hR
            refine AX_of_hax cx_ok hb ?_
            simp only [go_sem, simprocAttr]
            exact Weak.frame (by simp only [go_sem, simprocAttr])
          · have ec : decide (xc ≤ j) = false := decide_eq_false cc
            refine kont_hax cx_ok hb 200 mixed [(0, true), (1, true), (2, true), (3, true), (4, true), (5, true), (6, true), (7, true), (8, true), (9, true), (10, true), (11, true), (12, false), (13, true)] (by kernel_rfl) (by kernel_rfl) ?_
            simp only [go_sem, simprocAttr, hgetA, hgetL, hgetLk, hsetA, hsetL, hsetLk, List.length_append, List.length_set, List.append_assoc, List.set_set, hld1, hld1_l, hsd1, ec, pa]
            exact Weak.frame (by simp only [go_sem, simprocAttr])
        cases hB : (decide (xc ≤ j) && ltI d1[xc]! d1[a]!)
        · rw [hB, if_neg (by decide)] at hzc
          refine kont_of_hx cx_ok hb 200 ?_
          simp only [go_sem, simprocAttr, hgetA, hgetL, hgetLk, hsetA, hsetL, hsetLk, List.length_append, List.length_set, List.append_assoc, List.set_set, hB]
          subst hzc
          refine kont_of_hx cx_ok hb 200 ?_
          simp only [go_sem, simprocAttr, hgetA, hgetL, hgetLk, hsetA, hsetL, hsetLk, List.length_append, List.length_set, List.append_assoc, List.set_set]
          refine kont_for (fun m st => ∃ xd : Nat, xd + m = j ∧ xc ≤ xd + 1 ∧ Sort.scanDown (fun x => !ltI x d1[a]!) d1 xc xd = j2 ∧ st = ⟨[(0, .ref lo g 0 d.size), (1, dint a), (10, dint xc), (11, dint xd)], H⟩) d.size (s0 := ⟨[(0, .ref lo g 0 d.size), (1, dint a), (10, dint xc), (11, dint j)], H⟩) (Weak.frame (by simp only [go_sem, simprocAttr])) ⟨j, rfl, by omega, hj2, rfl⟩ ?_
          rintro md _ hmd ⟨xd, hxd, hyd, hzd, rfl⟩
          have gd : xc ≤ xd → xd < d.size := by omega
          rw [scanDown_eq _ _ _ _ (by omega)] at hzd
          refine kont_of_hx cx_ok hb 200 ?_
          simp only [go_sem, simprocAttr, hgetA, hgetL, hgetLk, hsetA, hsetL, hsetLk, List.length_append, List.length_set, List.append_assoc, List.set_set, hld1, hld1_l]
          first | refine kont_seq ?_ | skip
          refine kont_joinF [0, 1, 10, 11] [(129, dbool (decide (xc ≤ xd) && !ltI d1[xd]! d1[a]!))] rfl ?_ ?_
          · by_cases cd : xc ≤ xd
            · have ed : decide (xc ≤ xd) = true := decide_eq_true cd
              have g2d := gd cd
              refine kont_hax cx_ok hb 200 mixed [(0, true), (1, true), (2, true), (3, true), (4, true), (5, true), (6, true), (7, true), (8, true), (9, true), (10, true), (11, true), (12, false), (13, true), (14, true)] (by kernel_rfl) (by kernel_rfl) ?_
              simp only [go_sem, simprocAttr, hgetA, hgetL, hgetLk, hsetA, hsetL, hsetLk, List.length_append, List.length_set, List.append_assoc, List.set_set, hld1, hld1_l, hsd1, ed, pa, g2d]
              refine AX_call hb fn127 rfl ?_ (lessU_ok d1[xd]! d1[a]!) (Ret.flat rfl) rfl fun d h hR => ?_
              · simp only [go_sem, simprocAttr]
              obtain ⟨rfl, rfl⟩ := hR
              refine AX_of_hax cx_ok hb ?_
              simp only [go_sem, simprocAttr]
              exact Weak.frame (by simp only [go_sem, simprocAttr])
            · have ed : decide (xc ≤ xd) = false := decide_eq_false cd
              refine kont_hax cx_ok hb 200 mixed [(0, true), (1, true), (2, true), (3, true), (4, true), (5, true), (6, true), (7, true), (8, true), (9, true), (10, true), (11, true), (12, false), (13, true), (14, true)] (by kernel_rfl) (by kernel_rfl) ?_
              simp only [go_sem, simprocAttr, hgetA, hgetL, hgetLk, hsetA, hsetL, hsetLk, List.length_append, List.length_set, List.append_assoc, List.set_set, hld1, hld1_l, hsd1, ed, pa]
              exact Weak.frame (by simp only [go_sem, simprocAttr])
          cases hB : (decide (xc ≤ xd) && !ltI d1[xd]! d1[a]!)
          · rw [hB, if_neg (by decide)] at hzd
            refine kont_of_hx cx_ok hb 200 ?_
            simp only [go_sem, simprocAttr, hgetA, hgetL, hgetLk, hsetA, hsetL, hsetLk, List.length_append, List.length_set, List.append_assoc, List.set_set, hB]
            have vy1 : IntKind.i64.wrap ((xc : Int) + 1) = ((xc + 1 : Nat) : Int) := by rw [wrap64 (by omega) (by omega)]; omega
            subst hzd
            by_cases cg : xd < xc
            · have eg : decide (xd < xc) = true := decide_eq_true cg
              rw [if_pos cg] at hpl
              refine kont_of_hx cx_ok hb 200 ?_
              simp only [go_sem, simprocAttr, hgetA, hgetL, hgetLk, hsetA, hsetL, hsetLk, List.length_append, List.length_set, List.append_assoc, List.set_set, eg]
              refine kont_of_hx cx_ok hb 200 ?_
              simp only [go_sem, simprocAttr, hgetA, hgetL, hgetLk, hsetA, hsetL, hsetLk, List.length_append, List.length_set, List.append_assoc, List.set_set]
              have py : xd < d.size := by omega
              refine kont_hax cx_ok hb 200 mixed [(0, true), (1, true), (2, true), (3, true), (4, true), (5, true), (6, true), (7, true), (8, true), (9, true), (10, true), (11, true), (12, true), (13, false), (14, true), (15, false)] (by kernel_rfl) (by kernel_rfl) ?_
              simp only [go_sem, simprocAttr, hgetA, hgetL, hgetLk, hsetA, hsetL, hsetLk, List.length_append, List.length_set, List.append_assoc, List.set_set, hld1, hld1_l, hsd1, py, pa, hgetS hld1_l, List.set_set, dropB]
              rw [obj_swp g d1 _ _ _ hsd1 py pa]
              rw [← hpl, ← hH, List.set_set]
              first | exact ⟨rfl, rfl⟩ | rfl
            · have eg : decide (xd < xc) = false := decide_eq_false cg
              have clt := hord cg
              have px : xc < d.size := by omega
              have py : xd < d.size := by omega
              have vy2 : IntKind.i64.wrap ((xd : Int) - 1) = ((xd - 1 : Nat) : Int) := by rw [wrap64 (by omega) (by omega)]; omega
              rw [if_neg cg] at hpl
              refine kont_of_hx cx_ok hb 200 ?_
              simp only [go_sem, simprocAttr, hgetA, hgetL, hgetLk, hsetA, hsetL, hsetLk, List.length_append, List.length_set, List.append_assoc, List.set_set, eg]
              refine kont_hax cx_ok hb 200 mixed [(0, true), (1, true), (2, true), (3, true), (4, true), (5, true), (6, true), (7, true), (8, true), (9, true), (10, true), (11, true), (12, true), (13, false), (14, true), (15, false)] (by kernel_rfl) (by kernel_rfl) ?_
              simp only [go_sem, simprocAttr, hgetA, hgetL, hgetLk, hsetA, hsetL, hsetLk, List.length_append, List.length_set, List.append_assoc, List.set_set, hld1, hld1_l, hsd1, px, py, hgetS hld1_l, List.set_set, dropB, vy1, vy2]
              rw [obj_swp g d1 _ _ _ hsd1 px py]
              refine ⟨by omega, _, ?_, Sort.swp d1 xc xd, xc + 1, xd - 1, by rw [swp_size, hsd1], by omega, by omega, by omega, by omega, hpl, rfl⟩
              rw [← hH, List.set_set]
              exact Weak.frame (by simp only [go_sem, simprocAttr])
          · rw [hB, if_pos rfl] at hzd
            have lqd : xc ≤ xd := by
              rw [Bool.and_eq_true] at hB
              exact of_decide_eq_true hB.1
            have vd : IntKind.i64.wrap ((xd : Int) - 1) = ((xd - 1 : Nat) : Int) := by rw [wrap64 (by omega) (by omega)]; omega
            refine kont_of_hx cx_ok hb 200 ?_
            simp only [go_sem, simprocAttr, hgetA, hgetL, hgetLk, hsetA, hsetL, hsetLk, List.length_append, List.length_set, List.append_assoc, List.set_set, hB, vd]
            refine ⟨by omega, _, ?_, xd - 1, by omega, by omega, hzd, rfl⟩
            exact Weak.frame (by simp only [go_sem, simprocAttr])
        · rw [hB, if_pos rfl] at hzc
          have lqc : xc ≤ j := by
            rw [Bool.and_eq_true] at hB
            exact of_decide_eq_true hB.1
          have vc : IntKind.i64.wrap ((xc : Int) + 1) = ((xc + 1 : Nat) : Int) := by rw [wrap64 (by omega) (by omega)]; omega
          refine kont_of_hx cx_ok hb 200 ?_
          simp only [go_sem, simprocAttr, hgetA, hgetL, hgetLk, hsetA, hsetL, hsetLk, List.length_append, List.length_set, List.append_assoc, List.set_set, hB, vc]
          refine ⟨by omega, _, ?_, xc + 1, by omega, by omega, hzc, rfl⟩
          exact Weak.frame (by simp only [go_sem, simprocAttr])
    · rw [hB, if_pos rfl] at hzf
      have lqf : xe ≤ xf := by
        rw [Bool.and_eq_true] at hB
        exact of_decide_eq_true hB.1
      have vf : IntKind.i64.wrap ((xf : Int) - 1) = ((xf - 1 : Nat) : Int) := by rw [wrap64 (by omega) (by omega)]; omega
      refine kont_of_hx cx_ok hb 200 ?_
      simp only [go_sem, simprocAttr, hgetA, hgetL, hgetLk, hsetA, hsetL, hsetLk, List.length_append, List.length_set, List.append_assoc, List.set_set, hB, vf]
      refine ⟨by omega, _, ?_, xf - 1, by omega, by omega, hzf, rfl⟩
      exact Weak.frame (by simp only [go_sem, simprocAttr])
  · rw [hB, if_pos rfl] at hze
    have lqe : xe ≤ J0 := by
      rw [Bool.and_eq_true] at hB
      exact of_decide_eq_true hB.1
    have ve : IntKind.i64.wrap ((xe : Int) + 1) = ((xe + 1 : Nat) : Int) := by rw [wrap64 (by omega) (by omega)]; omega
    refine kont_of_hx cx_ok hb 200 ?_
    simp only [go_sem, simprocAttr, hgetA, hgetL, hgetLk, hsetA, hsetL, hsetLk, List.length_append, List.length_set, List.append_assoc, List.set_set, hB, ve]
    refine ⟨by omega, _, ?_, xe + 1, by omega, by omega, hze, rfl⟩
    exact Weak.frame (by simp only [go_sem, simprocAttr])
end
end Go.Fg.X
/- The sort of words of 64 bits: walked (8): insertion in part. Conditions: places within the array. -/
namespace Go.Fg.X
open Go.Proofs Go.Fg
set_option maxRecDepth 100000
set_option maxHeartbeats 4000000
set_option linter.unusedSimpArgs false
set_option linter.unusedVariables false
theorem shiftDown_sz : ∀ (j : Nat) (d : Array Int), (Sort.shiftDown ltI j d).size = d.size
  | 0, d => rfl
  | j + 1, d => by rw [Sort.shiftDown]; split; rfl; rw [shiftDown_sz j, swp_size]
theorem shiftUp_sz (b : Nat) : ∀ (n j : Nat) (d : Array Int), b - j ≤ n → (Sort.shiftUp ltI b j d).size = d.size
  | n, j, d, hn => by
    rw [Sort.shiftUp]
    split
    · split
      · rfl
      · obtain ⟨n', rfl⟩ : ∃ n', n = n' + 1 := ⟨n - 1, by omega⟩
        rw [shiftUp_sz b n' _ _ (by omega), swp_size]
    · rfl
theorem scanSorted_b (d : Array Int) (b : Nat) : ∀ (n i : Nat), b - i ≤ n → i ≤ b → i ≤ Sort.scanSorted ltI d b i ∧ Sort.scanSorted ltI d b i ≤ b
  | n, i, hn, hi => by
    rw [Sort.scanSorted]
    split
    · rename_i c
      simp at c
      obtain ⟨n', rfl⟩ : ∃ n', n = n' + 1 := ⟨n - 1, by omega⟩
      have := scanSorted_b d b n' (i + 1) (by omega) (by omega)
      omega
    · omega
section
variable {h : List Ob} {lo g : Nat} {d : Array Int} (ho : h[lo]? = some (arrO g d))
include ho
theorem partialIns_ok (a b : Nat) (hab : a < b) (hb0 : b ≤ d.size) (hz : d.size < 1000000000) :
    MFn Tryz.prog 126 h [.ref lo g 0 d.size, dint a, dint b] (fun dd h' => dd = dbool (Sort.partialInsertionSort ltI d a b).2 ∧ h' = h.set lo (arrO g (Sort.partialInsertionSort ltI d a b).1)) := by
  have e0 : IntKind.i64.wrap ((a : Int) + 1) = ((a + 1 : Nat) : Int) := by rw [wrap64 (by omega) (by omega)]; omega
  have eba : IntKind.i64.wrap ((b : Int) - a) = ((b - a : Nat) : Int) := by rw [wrap64 (by omega) (by omega)]; omega
  unfold Sort.partialInsertionSort
  refine MFn_hx cx_ok 200 Tryz.func126 rfl Tryz.ntmps126 Tryz.results126 rfl fun base w pl hb => ?_
  have ho_l := hlt ho
  simp only [go_sem, simprocAttr, hgetA, hgetL, hgetLk, hsetA, hsetL, hsetLk, List.length_append, List.length_set, List.append_assoc, List.set_set, ho, ho_l, e0]
  refine kont_for (fun m st => ∃ (d1 : Array Int) (x : Nat), d1.size = d.size ∧ a + 1 ≤ x ∧ x ≤ b ∧ m ≤ 5 ∧ Sort.partialIns ltI a b (5 - m) x d1 = Sort.partialIns ltI a b 5 (a + 1) d ∧ st = ⟨[(0, .ref lo g 0 d.size), (1, dint a), (2, dint b), (7, dint x), (8, dint m)], h.set lo (arrO g d1)⟩) 5 (s0 := ⟨[(0, .ref lo g 0 d.size), (1, dint a), (2, dint b), (7, dint (a + 1 : Nat)), (8, dint 0)], h.set lo (arrO g d)⟩) ?_ ⟨d, a + 1, rfl, by omega, by omega, by omega, rfl, rfl⟩ ?_
  · rw [setU_same ho]
    exact Weak.frame (by simp only [go_sem, simprocAttr])
  rintro m _ hm ⟨d1, i, hs1, hai, hib, hm5, hpi, rfl⟩
  have hl1 := arr_at (g := g) (d := d1) ho_l
  generalize hH : h.set lo (arrO g d1) = H at hl1
  have hl1_l := hlt hl1
  by_cases cm : m < 5
  · have em : decide ((m : Int) < 5) = true := decide_eq_true (by omega)
    obtain ⟨sq, hsm⟩ : ∃ s, 5 - m = s + 1 := ⟨5 - m - 1, by omega⟩
    have hsm1 : 4 - m = sq := by omega
    rw [hsm, Sort.partialIns] at hpi
    dsimp only at hpi
    obtain ⟨k1, k2⟩ := scanSorted_b d1 b _ i (Nat.le_refl _) hib
    generalize hK : Sort.scanSorted ltI d1 b i = K at *
    refine kont_of_hx cx_ok hb 200 ?_
    simp only [go_sem, simprocAttr, hgetA, hgetL, hgetLk, hsetA, hsetL, hsetLk, List.length_append, List.length_set, List.append_assoc, List.set_set, hl1, hl1_l, em]
    refine kont_for (fun n st => ∃ x : Nat, x = i + n ∧ x ≤ b ∧ Sort.scanSorted ltI d1 b x = K ∧ st = ⟨[(0, .ref lo g 0 d.size), (1, dint a), (2, dint b), (7, dint x), (8, dint m)], H⟩) d.size (s0 := ⟨[(0, .ref lo g 0 d.size), (1, dint a), (2, dint b), (7, dint i), (8, dint m)], H⟩) (Weak.frame (by simp only [go_sem, simprocAttr])) ⟨i, rfl, hib, hK, rfl⟩ ?_
    rintro n0 _ hn0 ⟨x, hx, hxb, hsc, rfl⟩
    have vx1 : IntKind.i64.wrap ((x : Int) - 1) = ((x - 1 : Nat) : Int) := by rw [wrap64 (by omega) (by omega)]; omega
    have px1 : x - 1 < d.size := by omega
    have gx : x < b → x < d.size := by omega
    rw [Sort.scanSorted] at hsc
    refine kont_of_hx cx_ok hb 200 ?_
    simp only [go_sem, simprocAttr, hgetA, hgetL, hgetLk, hsetA, hsetL, hsetLk, List.length_append, List.length_set, List.append_assoc, List.set_set, hl1, hl1_l]
    first | refine kont_seq ?_ | skip
    refine kont_joinF [0, 1, 2, 7, 8] [(32, dbool (decide (x < b) && !ltI d1[x]! d1[x - 1]!))] rfl ?_ ?_
    · by_cases cx : x < b
      · have ex : decide (x < b) = true := decide_eq_true cx
        have gx2 := gx cx
        refine kont_hax cx_ok hb 200 mixed [(0, true), (1, true), (2, true), (3, true), (4, true), (5, true), (6, true), (7, true), (8, true), (9, true), (10, true), (11, true), (12, true), (13, false), (14, true), (15, true)] (by kernel_rfl) (by kernel_rfl) ?_
        simp only [go_sem, simprocAttr, hgetA, hgetL, hgetLk, hsetA, hsetL, hsetLk, List.length_append, List.length_set, List.append_assoc, List.set_set, hl1, hl1_l, hs1, ex, vx1, px1, gx2]
        refine AX_call hb fn127 rfl ?_ (lessU_ok d1[x]! d1[x - 1]!) (Ret.flat rfl) rfl fun d h hR => ?_
        · simp only [go_sem, simprocAttr]
        obtain ⟨rfl, rfl⟩ := hR
        refine AX_of_hax cx_ok hb ?_
        simp only [go_sem, simprocAttr]
        exact Weak.frame (by simp only [go_sem, simprocAttr])
      · have ex : decide (x < b) = false := decide_eq_false cx
        refine kont_hax cx_ok hb 200 mixed [(0, true), (1, true), (2, true), (3, true), (4, true), (5, true), (6, true), (7, true), (8, true), (9, true), (10, true), (11, true), (12, true), (13, false), (14, true), (15, true)] (by kernel_rfl) (by kernel_rfl) ?_
        simp only [go_sem, simprocAttr, hgetA, hgetL, hgetLk, hsetA, hsetL, hsetLk, List.length_append, List.length_set, List.append_assoc, List.set_set, hl1, hl1_l, hs1, ex]
        exact Weak.frame (by simp only [go_sem, simprocAttr])
    cases hB : (decide (x < b) && !ltI d1[x]! d1[x - 1]!)
    · rw [hB, if_neg (by decide)] at hsc
      subst hsc
      refine kont_of_hx cx_ok hb 200 ?_
      simp only [go_sem, simprocAttr, hgetA, hgetL, hgetLk, hsetA, hsetL, hsetLk, List.length_append, List.length_set, List.append_assoc, List.set_set, hB]
      by_cases cb : x = b
      · have ebq : ((x : Int) == (b : Int)) = true := by rw [cb]; exact beq_self_eq_true _
        rw [if_pos cb] at hpi
        refine kont_of_hx cx_ok hb 200 ?_
        simp only [go_sem, simprocAttr, hgetA, hgetL, hgetLk, hsetA, hsetL, hsetLk, List.length_append, List.length_set, List.append_assoc, List.set_set, ebq]
        rw [← hpi, ← hH]
        first | exact ⟨rfl, rfl⟩ | rfl
      · have ebq : ((x : Int) == (b : Int)) = false := beq_eq_false_iff_ne.mpr (by omega)
        rw [if_neg cb] at hpi
        by_cases c50 : b - a < 50
        · have e50 : decide (((b - a : Nat) : Int) < 50) = true := decide_eq_true (by omega)
          rw [if_pos c50] at hpi
          refine kont_of_hx cx_ok hb 200 ?_
          simp only [go_sem, simprocAttr, hgetA, hgetL, hgetLk, hsetA, hsetL, hsetLk, List.length_append, List.length_set, List.append_assoc, List.set_set, ebq, eba, e50]
          rw [← hpi, ← hH]
          first | exact ⟨rfl, rfl⟩ | rfl
        · have e50 : decide (((b - a : Nat) : Int) < 50) = false := decide_eq_false (by omega)
          rw [if_neg c50] at hpi
          have px : x < d.size := by omega
          refine kont_of_hx cx_ok hb 200 ?_
          simp only [go_sem, simprocAttr, hgetA, hgetL, hgetLk, hsetA, hsetL, hsetLk, List.length_append, List.length_set, List.append_assoc, List.set_set, ebq, eba, e50]
          refine kont_haxFJ (⟨[(0, .ref lo g 0 d.size), (1, dint a), (2, dint b), (7, dint x), (8, dint m)], h.set lo (arrO g (Sort.swp d1 x (x - 1)))⟩) cx_ok hb mixed [(0, true), (1, true), (2, true), (3, true), (5, true), (6, true), (7, true), (8, true), (9, true), (10, true), (11, true), (12, true), (13, true), (14, true)] [4, 15, 16, 17] (by kernel_rfl) (by kernel_rfl) (fun s hw => kont_weak hw rfl ?_) ?_
          rotate_left
          · simp only [go_sem, simprocAttr, hgetA, hgetL, hgetLk, hsetA, hsetL, hsetLk, List.length_append, List.length_set, List.append_assoc, List.set_set, hl1, hl1_l, vx1, px, px1, hs1, hgetS hl1_l, List.set_set, dropB]
            rw [obj_swp g d1 _ _ _ hs1 px px1, ← hH, List.set_set]
            repeat' refine And.intro ?_ ?_
            all_goals exact Weak.frame (by simp only [go_sem, simprocAttr])
          generalize hd2 : Sort.swp d1 x (x - 1) = d2 at *
          have hs2 : d2.size = d.size := by rw [← hd2, swp_size, hs1]
          have hl2 := arr_at (g := g) (d := d2) ho_l
          have exa : IntKind.i64.wrap ((x : Int) - a) = ((x - a : Nat) : Int) := by rw [wrap64 (by omega) (by omega)]; omega
          have ebx : IntKind.i64.wrap ((b : Int) - x) = ((b - x : Nat) : Int) := by rw [wrap64 (by omega) (by omega)]; omega
          have vxp : IntKind.i64.wrap ((x : Int) + 1) = ((x + 1 : Nat) : Int) := by rw [wrap64 (by omega) (by omega)]; omega
          generalize hd3 : (if x - a ≥ 2 then Sort.shiftDown ltI (x - 1) d2 else d2) = d3 at *
          have hs3 : d3.size = d.size := by
            rw [← hd3]
            split
            · rw [shiftDown_sz, hs2]
            · exact hs2
          first | refine kont_seq ?_ | skip
          refine kont_join (⟨[(0, .ref lo g 0 d.size), (1, dint a), (2, dint b), (7, dint x), (8, dint m)], h.set lo (arrO g d3)⟩) ?_ ?_
          · by_cases cxa : x - a ≥ 2
            · have exa2 : decide ((2 : Int) ≤ ((x - a : Nat) : Int)) = true := decide_eq_true (by omega)
              rw [if_pos cxa] at hd3
              refine kont_of_hx cx_ok hb 200 ?_
              simp only [go_sem, simprocAttr, hgetA, hgetL, hgetLk, hsetA, hsetL, hsetLk, List.length_append, List.length_set, List.append_assoc, List.set_set, exa, exa2, vx1]
              rw [← hd3]
              refine kont_for (fun n st => ∃ (dd : Array Int) (y : Nat), dd.size = d.size ∧ y + n = x - 1 ∧ Sort.shiftDown ltI y dd = Sort.shiftDown ltI (x - 1) d2 ∧ st = ⟨[(0, .ref lo g 0 d.size), (1, dint a), (2, dint b), (7, dint x), (8, dint m), (9, dint y)], h.set lo (arrO g dd)⟩) d.size (s0 := ⟨[(0, .ref lo g 0 d.size), (1, dint a), (2, dint b), (7, dint x), (8, dint m), (9, dint (x - 1 : Nat))], h.set lo (arrO g d2)⟩) (Weak.frame (by simp only [go_sem, simprocAttr])) ⟨d2, _, hs2, by omega, rfl, rfl⟩ ?_
              rintro n _ hn ⟨dd, y, hsdd, hy, hsh, rfl⟩
              have hldd := arr_at (g := g) (d := dd) ho_l
              generalize hHd : h.set lo (arrO g dd) = Hd at hldd
              have hldd_l := hlt hldd
              by_cases cy : 1 ≤ y
              · have ey : decide ((1 : Int) ≤ (y : Int)) = true := decide_eq_true (by omega)
                obtain ⟨y', rfl⟩ : ∃ y', y = y' + 1 := ⟨y - 1, by omega⟩
                rw [Sort.shiftDown] at hsh
                have vy1 : IntKind.i64.wrap (((y' + 1 : Nat) : Int) - 1) = ((y' : Nat) : Int) := by rw [wrap64 (by omega) (by omega)]; omega
                
                have q1 : (y' + 1) < d.size := by omega
                have q2 : y' < d.size := by omega
                refine kont_of_hx cx_ok hb 200 ?_
                simp only [go_sem, simprocAttr, hgetA, hgetL, hgetLk, hsetA, hsetL, hsetLk, List.length_append, List.length_set, List.append_assoc, List.set_set, hldd, hldd_l, ey]
                refine kont_hax cx_ok hb 200 mixed [(0, true), (1, true), (2, true), (3, true), (4, true), (5, true), (6, true), (7, true), (8, true), (9, false), (10, true)] (by kernel_rfl) (by kernel_rfl) ?_
                simp only [go_sem, simprocAttr, hgetA, hgetL, hgetLk, hsetA, hsetL, hsetLk, List.length_append, List.length_set, List.append_assoc, List.set_set, hldd, hldd_l, hsdd, vy1, q1, q2]
                refine AX_call hb fn127 rfl ?_ (lessU_ok dd[y' + 1]! dd[y']!) (Ret.flat rfl) rfl fun d h hR => ?_
                · simp only [go_sem, simprocAttr]
                obtain ⟨rfl, rfl⟩ := hR
                refine AX_of_hax cx_ok hb ?_
                simp only [go_sem, simprocAttr]
                cases hl : ltI dd[y' + 1]! dd[y']!
                · rw [hl, Bool.not_false, if_pos rfl] at hsh
                  simp only [go_sem, simprocAttr, hl]
                  try (refine kont_of_hx cx_ok hb 200 ?_; simp only [go_sem, simprocAttr, hgetA, hgetL, hgetLk, hsetA, hsetL, hsetLk, List.length_append, List.length_set, List.append_assoc, List.set_set])
                  first | rw [← hsh, ← hHd] | rw [← hHd]
                  exact Weak.frame (by simp only [go_sem, simprocAttr])
                · rw [hl, Bool.not_true, if_neg (by decide)] at hsh
                  simp only [go_sem, simprocAttr, hl]
                  refine kont_haxFJ (⟨[(0, .ref lo g 0 d.size), (1, dint a), (2, dint b), (7, dint x), (8, dint m), (9, dint (y' + 1 : Nat))], h.set lo (arrO g (Sort.swp dd (y' + 1) y'))⟩) cx_ok hb mixed [(0, true), (1, true), (2, true), (3, true), (5, true), (6, true), (7, true), (8, true), (9, true), (10, true), (11, true), (12, true), (13, true), (14, true)] [4, 15, 16, 17] (by kernel_rfl) (by kernel_rfl) (fun s hw => kont_weak hw rfl ?_) ?_
                  rotate_left
                  · simp only [go_sem, simprocAttr, hgetA, hgetL, hgetLk, hsetA, hsetL, hsetLk, List.length_append, List.length_set, List.append_assoc, List.set_set, hldd, hldd_l, hsdd, vy1, q1, q2, hgetS hldd_l, List.set_set, dropB]
                    rw [obj_swp g dd _ _ _ hsdd q1 q2, ← hHd, List.set_set]
                    repeat' refine And.intro ?_ ?_
                    all_goals exact Weak.frame (by simp only [go_sem, simprocAttr])
                  refine kont_of_hx cx_ok hb 200 ?_
                  simp only [go_sem, simprocAttr, vy1]
                  refine ⟨by omega, _, ?_, Sort.swp dd (y' + 1) y', y', by rw [swp_size, hsdd], by omega, hsh, rfl⟩
                  exact Weak.frame (by simp only [go_sem, simprocAttr])
              · have ey : decide ((1 : Int) ≤ (y : Int)) = false := decide_eq_false (by omega)
                obtain rfl : y = 0 := by omega
                rw [Sort.shiftDown] at hsh
                refine kont_of_hx cx_ok hb 200 ?_
                simp only [go_sem, simprocAttr, hgetA, hgetL, hgetLk, hsetA, hsetL, hsetLk, List.length_append, List.length_set, List.append_assoc, List.set_set, hldd, hldd_l, ey]
                try (refine kont_of_hx cx_ok hb 200 ?_; simp only [go_sem, simprocAttr, hgetA, hgetL, hgetLk, hsetA, hsetL, hsetLk, List.length_append, List.length_set, List.append_assoc, List.set_set])
                first | rw [← hsh, ← hHd] | rw [← hHd]
                exact Weak.frame (by simp only [go_sem, simprocAttr])
            · have exa2 : decide ((2 : Int) ≤ ((x - a : Nat) : Int)) = false := decide_eq_false (by omega)
              rw [if_neg cxa] at hd3
              refine kont_of_hx cx_ok hb 200 ?_
              simp only [go_sem, simprocAttr, hgetA, hgetL, hgetLk, hsetA, hsetL, hsetLk, List.length_append, List.length_set, List.append_assoc, List.set_set, exa, exa2]
              rw [← hd3]
              exact Weak.frame (by simp only [go_sem, simprocAttr])
          have vm1 : IntKind.i64.wrap ((m : Int) + 1) = ((m + 1 : Nat) : Int) := by rw [wrap64 (by omega) (by omega)]; omega
          by_cases cbx : b - x ≥ 2
          · have ebx2 : decide ((2 : Int) ≤ ((b - x : Nat) : Int)) = true := decide_eq_true (by omega)
            rw [if_pos cbx] at hpi
            refine kont_of_hx cx_ok hb 200 ?_
            simp only [go_sem, simprocAttr, hgetA, hgetL, hgetLk, hsetA, hsetL, hsetLk, List.length_append, List.length_set, List.append_assoc, List.set_set, ebx, ebx2, vxp]
            refine kont_for (fun n st => ∃ (dd : Array Int) (y : Nat), dd.size = d.size ∧ y = x + 1 + n ∧ y ≤ b ∧ Sort.shiftUp ltI b y dd = Sort.shiftUp ltI b (x + 1) d3 ∧ st = ⟨[(0, .ref lo g 0 d.size), (1, dint a), (2, dint b), (7, dint x), (8, dint m), (10, dint y)], h.set lo (arrO g dd)⟩) d.size (s0 := ⟨[(0, .ref lo g 0 d.size), (1, dint a), (2, dint b), (7, dint x), (8, dint m), (10, dint (x + 1 : Nat))], h.set lo (arrO g d3)⟩) (Weak.frame (by simp only [go_sem, simprocAttr])) ⟨d3, _, hs3, by omega, by omega, rfl, rfl⟩ ?_
            rintro n _ hn ⟨dd, y, hsdd, hy, hyb, hsh, rfl⟩
            have hldd := arr_at (g := g) (d := dd) ho_l
            generalize hHd : h.set lo (arrO g dd) = Hd at hldd
            have hldd_l := hlt hldd
            by_cases cy : y < b
            · have ey : decide (y < b) = true := decide_eq_true (by omega)
              rw [Sort.shiftUp, if_pos cy] at hsh
              have vy1 : IntKind.i64.wrap ((y : Int) - 1) = ((y - 1 : Nat) : Int) := by rw [wrap64 (by omega) (by omega)]; omega
              have vy2 : IntKind.i64.wrap ((y : Int) + 1) = ((y + 1 : Nat) : Int) := by rw [wrap64 (by omega) (by omega)]; omega
              have q1 : y < d.size := by omega
              have q2 : (y - 1) < d.size := by omega
              refine kont_of_hx cx_ok hb 200 ?_
              simp only [go_sem, simprocAttr, hgetA, hgetL, hgetLk, hsetA, hsetL, hsetLk, List.length_append, List.length_set, List.append_assoc, List.set_set, hldd, hldd_l, ey]
              refine kont_hax cx_ok hb 200 mixed [(0, true), (1, true), (2, true), (3, true), (4, true), (5, true), (6, true), (7, true), (8, true), (9, false), (10, true)] (by kernel_rfl) (by kernel_rfl) ?_
              simp only [go_sem, simprocAttr, hgetA, hgetL, hgetLk, hsetA, hsetL, hsetLk, List.length_append, List.length_set, List.append_assoc, List.set_set, hldd, hldd_l, hsdd, vy1, q1, q2]
              refine AX_call hb fn127 rfl ?_ (lessU_ok dd[y]! dd[y - 1]!) (Ret.flat rfl) rfl fun d h hR => ?_
              · simp only [go_sem, simprocAttr]
              obtain ⟨rfl, rfl⟩ := hR
              refine AX_of_hax cx_ok hb ?_
              simp only [go_sem, simprocAttr]
              cases hl : ltI dd[y]! dd[y - 1]!
              · rw [hl, Bool.not_false, if_pos rfl] at hsh
                simp only [go_sem, simprocAttr, hl]
                try (refine kont_of_hx cx_ok hb 200 ?_; simp only [go_sem, simprocAttr, hgetA, hgetL, hgetLk, hsetA, hsetL, hsetLk, List.length_append, List.length_set, List.append_assoc, List.set_set])
                first | rw [← hsh, ← hHd] | rw [← hHd]
                try simp only [vm1]
                refine ⟨by omega, _, ?_, dd, x, hsdd, by omega, by omega, by omega, by rw [hsm1, hsh]; exact hpi, rfl⟩
                exact Weak.frame (by simp only [go_sem, simprocAttr])
              · rw [hl, Bool.not_true, if_neg (by decide)] at hsh
                simp only [go_sem, simprocAttr, hl]
                refine kont_haxFJ (⟨[(0, .ref lo g 0 d.size), (1, dint a), (2, dint b), (7, dint x), (8, dint m), (10, dint (y : Nat))], h.set lo (arrO g (Sort.swp dd y (y - 1)))⟩) cx_ok hb mixed [(0, true), (1, true), (2, true), (3, true), (5, true), (6, true), (7, true), (8, true), (9, true), (10, true), (11, true), (12, true), (13, true), (14, true)] [4, 15, 16, 17] (by kernel_rfl) (by kernel_rfl) (fun s hw => kont_weak hw rfl ?_) ?_
                rotate_left
                · simp only [go_sem, simprocAttr, hgetA, hgetL, hgetLk, hsetA, hsetL, hsetLk, List.length_append, List.length_set, List.append_assoc, List.set_set, hldd, hldd_l, hsdd, vy1, q1, q2, hgetS hldd_l, List.set_set, dropB]
                  rw [obj_swp g dd _ _ _ hsdd q1 q2, ← hHd, List.set_set]
                  repeat' refine And.intro ?_ ?_
                  all_goals exact Weak.frame (by simp only [go_sem, simprocAttr])
                refine kont_of_hx cx_ok hb 200 ?_
                simp only [go_sem, simprocAttr, vy2]
                refine ⟨by omega, _, ?_, Sort.swp dd y (y - 1), y + 1, by rw [swp_size, hsdd], by omega, by omega, hsh, rfl⟩
                exact Weak.frame (by simp only [go_sem, simprocAttr])
            · have ey : decide (y < b) = false := decide_eq_false (by omega)
              rw [Sort.shiftUp, if_neg cy] at hsh
              refine kont_of_hx cx_ok hb 200 ?_
              simp only [go_sem, simprocAttr, hgetA, hgetL, hgetLk, hsetA, hsetL, hsetLk, List.length_append, List.length_set, List.append_assoc, List.set_set, hldd, hldd_l, ey]
              try (refine kont_of_hx cx_ok hb 200 ?_; simp only [go_sem, simprocAttr, hgetA, hgetL, hgetLk, hsetA, hsetL, hsetLk, List.length_append, List.length_set, List.append_assoc, List.set_set])
              first | rw [← hsh, ← hHd] | rw [← hHd]
              try simp only [vm1]
              refine ⟨by omega, _, ?_, dd, x, hsdd, by omega, by omega, by omega, by rw [hsm1, hsh]; exact hpi, rfl⟩
              exact Weak.frame (by simp only [go_sem, simprocAttr])
          · have ebx2 : decide ((2 : Int) ≤ ((b - x : Nat) : Int)) = false := decide_eq_false (by omega)
            rw [if_neg cbx] at hpi
            refine kont_of_hx cx_ok hb 200 ?_
            simp only [go_sem, simprocAttr, hgetA, hgetL, hgetLk, hsetA, hsetL, hsetLk, List.length_append, List.length_set, List.append_assoc, List.set_set, ebx, ebx2, vm1]
            refine ⟨by omega, _, ?_, d3, x, hs3, by omega, by omega, by omega, by rw [hsm1]; exact hpi, rfl⟩
            exact Weak.frame (by simp only [go_sem, simprocAttr])
    · rw [hB, if_pos rfl] at hsc
      have lq : x < b := by
        rw [Bool.and_eq_true] at hB
        exact of_decide_eq_true hB.1
      have vxp : IntKind.i64.wrap ((x : Int) + 1) = ((x + 1 : Nat) : Int) := by rw [wrap64 (by omega) (by omega)]; omega
      refine kont_of_hx cx_ok hb 200 ?_
      simp only [go_sem, simprocAttr, hgetA, hgetL, hgetLk, hsetA, hsetL, hsetLk, List.length_append, List.length_set, List.append_assoc, List.set_set, hB, vxp]
      refine ⟨by omega, _, ?_, x + 1, by omega, by omega, hsc, rfl⟩
      exact Weak.frame (by simp only [go_sem, simprocAttr])
  · have em : decide ((m : Int) < 5) = false := decide_eq_false (by omega)
    obtain rfl : m = 5 := by omega
    rw [Nat.sub_self, Sort.partialIns] at hpi
    refine kont_of_hx cx_ok hb 200 ?_
    simp only [go_sem, simprocAttr, hgetA, hgetL, hgetLk, hsetA, hsetL, hsetLk, List.length_append, List.length_set, List.append_assoc, List.set_set, hl1, hl1_l, em]
    refine kont_of_hx cx_ok hb 200 ?_
    simp only [go_sem, simprocAttr, hgetA, hgetL, hgetLk, hsetA, hsetL, hsetLk, List.length_append, List.length_set, List.append_assoc, List.set_set]
    rw [← hpi, ← hH]
    first | exact ⟨rfl, rfl⟩ | rfl
end
end Go.Fg.X
/- The sort of words of 64 bits: walked (9): lengths in bits, the shuffler. Conditions: lengths below 2^30. -/
namespace Go.Fg.X
open Go.Proofs Go.Fg
set_option maxRecDepth 100000
set_option maxHeartbeats 4000000
set_option linter.unusedSimpArgs false
set_option linter.unusedVariables false
theorem bitsLen_sh (n k : Nat) (h : 2 ^ k ≤ n) : Sort.bitsLen n = k + Sort.bitsLen (n / 2 ^ k) := by
  have e : ∀ m, Sort.bitsLen n ≤ m ↔ k + Sort.bitsLen (n / 2 ^ k) ≤ m := by
    intro m
    rw [Sort.bitsLen_le_iff]
    by_cases c : k ≤ m
    · obtain ⟨j, rfl⟩ : ∃ j, m = k + j := ⟨m - k, by omega⟩
      have h2 := Sort.bitsLen_le_iff (n / 2 ^ k) j
      rw [Nat.div_lt_iff_lt_mul (Nat.two_pow_pos k), ← Nat.pow_add, Nat.add_comm j k] at h2
      rw [← h2]
      omega
    · have : 2 ^ m ≤ 2 ^ k := Nat.pow_le_pow_right (by decide) (by omega)
      constructor
      · intro hh; omega
      · intro hh; omega
  have a1 := (e (Sort.bitsLen n)).1 (Nat.le_refl _)
  have a2 := (e (k + Sort.bitsLen (n / 2 ^ k))).2 (Nat.le_refl _)
  omega
theorem tab_at (t : Array UInt8) (ht : (List.range 256).all (fun i => Nat.beq (t.getD i 0).toNat (Sort.bitsLen i)) = true) (hs : t.size = 256) (k i n : Nat) (hi : i < 256) (hk : k < 1000) (hn : Sort.bitsLen n = k + Sort.bitsLen i) :
    IntKind.u8.wrap (i : Int) < (t.size : Int) ∧ D.raw (.int .i64 (IntKind.i64.wrap ((k : Int) + IntKind.i64.wrap ((t.getD (IntKind.u8.wrap (i : Int)).toNat 0).toNat : Int)))) = D.raw (.int .i64 (Sort.bitsLen n)) := by
  have h1 := List.all_eq_true.1 ht i (List.mem_range.2 hi)
  rw [Nat.beq_eq] at h1
  have w : IntKind.u8.wrap (i : Int) = i := by rw [IntKind.wrap_u8]; omega
  rw [w, hs, show ((i : Int)).toNat = i from rfl, h1, hn]
  have h2 : Sort.bitsLen i ≤ 8 := (Sort.bitsLen_le_iff i 8).2 (by omega)
  refine ⟨by omega, ?_⟩
  have w2 : IntKind.i64.wrap (Sort.bitsLen i : Int) = Sort.bitsLen i := wrap64 (by omega) (by omega)
  rw [w2, wrap64 (by omega) (by omega)]
  congr 2
theorem len64_ok (n : Nat) (hn : n < 4294967296) : AFn Tryz.prog 120 [u64 n] (Ret (dint (Sort.bitsLen n))) := by
  have e1 : decide ((4294967296 : Int) ≤ n) = false := decide_eq_false (by omega)
  refine AFn_hxk 0 cx_ok 200 Tryz.func120 rfl Tryz.ntmps120 Tryz.results120 rfl fun base w hb => ?_
  simp only [go_sem, simprocAttr]
  have s1 : ((n : Int).fdiv (2 ^ min 16 64)) = ((n / 65536 : Nat) : Int) := shr_u n 16
  have s2 : ∀ m : Nat, ((m : Int).fdiv (2 ^ min 8 64)) = ((m / 256 : Nat) : Int) := fun m => shr_u m 8
  have w16 : IntKind.i64.wrap 16 = 16 := rfl
  have w24 : IntKind.i64.wrap 24 = 24 := rfl
  have w8 : IntKind.i64.wrap 8 = 8 := rfl
  by_cases c1 : 65536 ≤ n
  · have d1 : decide ((65536 : Int) ≤ n) = true := decide_eq_true (by omega)
    by_cases c2 : 256 ≤ n / 65536
    · have d2 : decide ((256 : Int) ≤ (n / 65536 : Nat)) = true := decide_eq_true (by omega)
      simp only [go_sem, simprocAttr, e1, d1, s1, d2, s2, w16, w24]
      exact tab_at _ (by kernel_rfl) (by kernel_rfl) 24 (n / 65536 / 256) n (by omega) (by decide) (by rw [bitsLen_sh n 16 (by omega), bitsLen_sh (n / 2 ^ 16) 8 (by omega), show n / 2 ^ 16 / 2 ^ 8 = n / 65536 / 256 from rfl]; omega)
    · have d2 : decide ((256 : Int) ≤ (n / 65536 : Nat)) = false := decide_eq_false (by omega)
      simp only [go_sem, simprocAttr, e1, d1, s1, d2, s2, w16, w24]
      exact tab_at _ (by kernel_rfl) (by kernel_rfl) 16 (n / 65536) n (by omega) (by decide) (by rw [bitsLen_sh n 16 (by omega)])
  · have d1 : decide ((65536 : Int) ≤ n) = false := decide_eq_false (by omega)
    by_cases c2 : 256 ≤ n
    · have d2 : decide ((256 : Int) ≤ n) = true := decide_eq_true (by omega)
      simp only [go_sem, simprocAttr, e1, d1, s1, d2, s2, w8, w24]
      exact tab_at _ (by kernel_rfl) (by kernel_rfl) 8 (n / 256) n (by omega) (by decide) (by rw [bitsLen_sh n 8 (by omega)])
    · have d2 : decide ((256 : Int) ≤ n) = false := decide_eq_false (by omega)
      simp only [go_sem, simprocAttr, e1, d1, s1, d2, s2]
      exact tab_at _ (by kernel_rfl) (by kernel_rfl) 0 n n (by omega) (by decide) (by omega)
theorem len_ok (n : Nat) (hn : n < 4294967296) : AFn Tryz.prog 99 [u64 n] (Ret (dint (Sort.bitsLen n))) := by
  refine AFn_hxk 0 cx_ok 200 Tryz.func99 rfl Tryz.ntmps99 Tryz.results99 rfl fun base w hb => ?_
  simp only [go_sem, simprocAttr]
  refine kont_call hb fn120 rfl ?_ (len64_ok n hn) (Ret.flat rfl) rfl fun d h hR => ?_
  · simp only [go_sem, simprocAttr]
  obtain ⟨rfl, rfl⟩ := hR
  refine kont_of_hx cx_ok hb 200 ?_
  simp only [go_sem, simprocAttr]
theorem nextPow_ok (n : Nat) (hn : n < 1000000000) : AFn Tryz.prog 131 [dint n] (Ret (u64 (2 ^ Sort.bitsLen n))) := by
  have w1 : IntKind.u64.wrap (n : Int) = (n : Int) := by rw [IntKind.wrap_u64]; omega
  have hb := (Sort.bitsLen_le_iff n 30).2 (by omega)
  have hp : 2 ^ Sort.bitsLen n ≤ 2 ^ 30 := Nat.pow_le_pow_right (by decide) hb
  have w2 : IntKind.u64.wrap (1 * 2 ^ min (Sort.bitsLen n) 64) = ((2 ^ Sort.bitsLen n : Nat) : Int) := by
    rw [Nat.min_eq_left (by omega), Int.one_mul, show (2 : Int) ^ Sort.bitsLen n = ((2 ^ Sort.bitsLen n : Nat) : Int) by push_cast; rfl, IntKind.wrap_u64]
    generalize 2 ^ Sort.bitsLen n = p at *
    omega
  refine AFn_hxk 0 cx_ok 200 Tryz.func131 rfl Tryz.ntmps131 Tryz.results131 rfl fun base w hb => ?_
  simp only [go_sem, simprocAttr]
  simp only [go_sem, simprocAttr, w1]
  refine kont_call hb fn99 rfl ?_ (len_ok n (by omega)) (Ret.flat rfl) rfl fun d h hR => ?_
  · simp only [go_sem, simprocAttr, w2]
  obtain ⟨rfl, rfl⟩ := hR
  refine kont_of_hx cx_ok hb 200 ?_
  simp only [go_sem, simprocAttr, w2]
@[go_sem] def wordO (n : Nat) : Ob := ⟨.one, 0, 1, 1, fun _ => [u64 n]⟩
theorem xs_ok {h : List Ob} {sp : Nat} (n : Nat) (hsp : h[sp]? = some (wordO n)) (hn : n < 18446744073709551616) :
    MFn Tryz.prog 132 h [.ptr sp 0 0 0] (fun dd h' => dd = u64 (Sort.xorNextN n) ∧ h' = h.set sp (wordO (Sort.xorNextN n))) := by
  refine MFn_hx cx_ok 200 Tryz.func132 rfl Tryz.ntmps132 Tryz.results132 rfl fun base w pl hb => ?_
  have hsp_l := hlt hsp
  simp only [go_sem, simprocAttr, hgetA, hgetL, hgetLk, hsetA, hsetL, hsetLk, List.length_append, List.length_set, List.append_assoc, List.set_set, hsp, hsp_l]
  have x1 : ∀ a : Nat, a < 18446744073709551616 → bits .xor .u64 (a : Int) (IntKind.u64.wrap ((a : Int) * 2 ^ min 13 64)) = ((a ^^^ (a * 8192 % 18446744073709551616) : Nat) : Int) := fun a ha => by
    rw [show IntKind.u64.wrap ((a : Int) * 2 ^ min 13 64) = ((a * 8192 % 18446744073709551616 : Nat) : Int) from wu_mul a 8192]
    exact u64_xor_nat _ _ ha (Nat.mod_lt _ (by decide))
  have x2 : ∀ a : Nat, a < 18446744073709551616 → bits .xor .u64 (a : Int) ((a : Int).fdiv (2 ^ min 7 64)) = ((a ^^^ (a / 128) : Nat) : Int) := fun a ha => by
    rw [show (a : Int).fdiv (2 ^ min 7 64) = ((a / 128 : Nat) : Int) from shr_u a 7]
    exact u64_xor_nat _ _ ha (by omega)
  have x3 : ∀ a : Nat, a < 18446744073709551616 → bits .xor .u64 (a : Int) (IntKind.u64.wrap ((a : Int) * 2 ^ min 17 64)) = ((a ^^^ (a * 131072 % 18446744073709551616) : Nat) : Int) := fun a ha => by
    rw [show IntKind.u64.wrap ((a : Int) * 2 ^ min 17 64) = ((a * 131072 % 18446744073709551616 : Nat) : Int) from wu_mul a 131072]
    exact u64_xor_nat _ _ ha (Nat.mod_lt _ (by decide))
  have ha : n ^^^ (n * 8192 % 18446744073709551616) < 18446744073709551616 := Nat.xor_lt_two_pow (n := 64) (by omega) (by omega)
  have hb' : (n ^^^ (n * 8192 % 18446744073709551616)) ^^^ ((n ^^^ (n * 8192 % 18446744073709551616)) / 128) < 18446744073709551616 := Nat.xor_lt_two_pow (n := 64) ha (by omega)
  unfold Sort.xorNextN
  dsimp only
  refine kont_hax cx_ok hb 200 mixed [(0, true), (1, true), (2, true), (3, true), (4, true), (5, true), (6, true), (7, true), (8, true), (9, false)] (by kernel_rfl) (by kernel_rfl) ?_
  simp only [go_sem, simprocAttr, hgetA, hgetL, hgetLk, hsetA, hsetL, hsetLk, List.length_append, List.length_set, List.append_assoc, List.set_set, hsp, hsp_l, x1 n hn]
  generalize n ^^^ (n * 8192 % 18446744073709551616) = n1 at *
  refine kont_hax cx_ok hb 200 mixed [(0, true), (1, true), (2, true), (3, true), (4, true), (5, true), (6, true), (7, true), (8, true), (9, false)] (by kernel_rfl) (by kernel_rfl) ?_
  simp only [go_sem, simprocAttr, hgetA, hgetL, hgetLk, hsetA, hsetL, hsetLk, List.length_append, List.length_set, List.append_assoc, List.set_set, hgetS hsp_l, List.set_set, hsp_l, x2 n1 ha]
  generalize n1 ^^^ (n1 / 128) = n2 at *
  refine kont_hax cx_ok hb 200 mixed [(0, true), (1, true), (2, true), (3, true), (4, true), (5, true), (6, true), (7, true), (8, true), (9, false)] (by kernel_rfl) (by kernel_rfl) ?_
  simp only [go_sem, simprocAttr, hgetA, hgetL, hgetLk, hsetA, hsetL, hsetLk, List.length_append, List.length_set, List.append_assoc, List.set_set, hgetS hsp_l, List.set_set, hsp_l, x3 n2 hb']
  try exact ⟨rfl, rfl⟩
end Go.Fg.X
/- The sort of words of 64 bits: walked (10): patterns are broken. Conditions: places within the array. -/
namespace Go.Fg.X
open Go.Proofs Go.Fg
set_option maxRecDepth 100000
set_option maxHeartbeats 4000000
set_option linter.unusedSimpArgs false
set_option linter.unusedVariables false
def bpS (a L M idx : Nat) (s0 : UInt64 × Array Int) : Nat → UInt64 × Array Int
  | 0 => s0
  | k + 1 => Sort.breakStep a L M (bpS a L M idx s0 k) (idx + k)
theorem bpS_size (a L M idx : Nat) (s0 : UInt64 × Array Int) : ∀ k, (bpS a L M idx s0 k).2.size = s0.2.size
  | 0 => rfl
  | k + 1 => by
    rw [bpS, Sort.breakStep]
    dsimp only
    rw [swp_size, bpS_size a L M idx s0 k]
theorem bp_eq (d : Array Int) (a b : Nat) (h : b - a ≥ 8) : Sort.breakPatterns d a b = (bpS a (b - a) (1 <<< Sort.bitsLen (b - a)) (a + (b - a) / 4 * 2 - 1) (UInt64.ofNat (b - a), d) 3).2 := by
  unfold Sort.breakPatterns
  dsimp only
  rw [if_pos h]
  rfl
section
variable {h : List Ob} {lo g : Nat} {d : Array Int} (ho : h[lo]? = some (arrO g d))
include ho
theorem break_ok (a b : Nat) (hab : a < b) (hb0 : b ≤ d.size) (hz : d.size < 1000000000) :
    MFn Tryz.prog 123 h [.ref lo g 0 d.size, dint a, dint b] (fun dd h' => dd = .tup [] ∧ ∃ t, h' = h.set lo (arrO g (Sort.breakPatterns d a b)) ++ t) := by
  have e0 : IntKind.i64.wrap ((b : Int) - a) = ((b - a : Nat) : Int) := by rw [wrap64 (by omega) (by omega)]; omega
  by_cases c8 : b - a ≥ 8
  · rw [bp_eq d a b c8]
    have d8 : decide ((8 : Int) ≤ (b - a : Nat)) = true := decide_eq_true (by omega)
    generalize hL : b - a = L at *
    have hM1 := Sort.two_pow_bitsLen_le (n := L) (by omega)
    have hM0 := Nat.two_pow_pos (Sort.bitsLen L)
    rw [show 1 <<< Sort.bitsLen L = 2 ^ Sort.bitsLen L by rw [Nat.shiftLeft_eq, Nat.one_mul]]
    have f0 : ((L : Int)).tdiv 4 = ((L / 4 : Nat) : Int) := rfl
    have f1 : IntKind.i64.wrap (((L / 4 : Nat) : Int)) = ((L / 4 : Nat) : Int) := by rw [wrap64 (by omega) (by omega)]
    have f2 : IntKind.i64.wrap (((L / 4 : Nat) : Int) * 2) = ((L / 4 * 2 : Nat) : Int) := by rw [wrap64 (by omega) (by omega)]; omega
    have f3 : IntKind.i64.wrap ((a : Int) + (L / 4 * 2 : Nat)) = ((a + L / 4 * 2 : Nat) : Int) := by rw [wrap64 (by omega) (by omega)]; omega
    have f4 : IntKind.i64.wrap (((a + L / 4 * 2 : Nat) : Int) - 1) = ((a + L / 4 * 2 - 1 : Nat) : Int) := by rw [wrap64 (by omega) (by omega)]; omega
    have f5 : IntKind.i64.wrap (((a + L / 4 * 2 : Nat) : Int) + 1) = ((a + L / 4 * 2 + 1 : Nat) : Int) := by rw [wrap64 (by omega) (by omega)]; omega
    have f6 : IntKind.u64.wrap (L : Int) = (L : Int) := by rw [IntKind.wrap_u64]; omega
    refine MFn_hx cx_ok 200 Tryz.func123 rfl Tryz.ntmps123 Tryz.results123 rfl fun base w pl hb => ?_
    have ho_l := hlt ho
    simp only [go_sem, simprocAttr, hgetA, hgetL, hgetLk, hsetA, hsetL, hsetLk, List.length_append, List.length_set, List.append_assoc, List.set_set, ho, ho_l, e0, d8, f6]
    refine kont_call hb fn131 rfl ?_ (nextPow_ok L (by omega)) (Ret.flat rfl) rfl fun d h hR => ?_
    · simp only [go_sem, simprocAttr, f0, f1, f2, f3, f4]
    obtain ⟨rfl, rfl⟩ := hR
    refine kont_of_hx cx_ok hb 200 ?_
    simp only [go_sem, simprocAttr, f0, f1, f2, f3, f4]
    generalize hM : 2 ^ Sort.bitsLen L = M at *
    generalize hS : (UInt64.ofNat L, d) = s0
    have hs0 : s0.2.size = d.size := by rw [← hS]
    have hS1 : s0.1.toNat = L := by rw [← hS]; simp; omega
    have hS2 : s0.2 = d := by rw [← hS]
    refine kont_for (fun m st => m ≤ 3 ∧ st = ⟨[(0, .ref lo g 0 d.size), (1, dint a), (6, dint L), (7, .ptr h.length 0 0 0), (8, u64 M), (9, dint (a + L / 4 * 2 - 1 + m : Nat))], h.set lo (arrO g (bpS a L M (a + L / 4 * 2 - 1) s0 m).2) ++ [wordO (bpS a L M (a + L / 4 * 2 - 1) s0 m).1.toNat]⟩) 3 (s0 := ⟨[(0, .ref lo g 0 d.size), (1, dint a), (6, dint L), (7, .ptr h.length 0 0 0), (8, u64 M), (9, dint (a + L / 4 * 2 - 1 + 0 : Nat))], h.set lo (arrO g (bpS a L M (a + L / 4 * 2 - 1) s0 0).2) ++ [wordO (bpS a L M (a + L / 4 * 2 - 1) s0 0).1.toNat]⟩) ?_ ⟨by omega, rfl⟩ ?_
    · rw [bpS, hS2, hS1, setU_same ho]
      exact Weak.frame (by simp only [go_sem, simprocAttr])
    rintro m _ hm ⟨hm3, rfl⟩
    have hsz := bpS_size a L M (a + L / 4 * 2 - 1) s0 m
    rw [hs0] at hsz
    by_cases cm : m < 3
    · have stp : bpS a L M (a + L / 4 * 2 - 1) s0 (m + 1) = Sort.breakStep a L M (bpS a L M (a + L / 4 * 2 - 1) s0 m) (a + L / 4 * 2 - 1 + m) := rfl
      generalize hst : bpS a L M (a + L / 4 * 2 - 1) s0 m = sm at *
      obtain ⟨r, dm⟩ := sm
      dsimp only at hsz ⊢
      have hlm := arr_at (g := g) (d := dm) ho_l
      have hHl : (h.set lo (arrO g dm)).length = h.length := List.length_set
      generalize hH : h.set lo (arrO g dm) = H at *
      have hlm_l := hlt hlm
      have hlo : lo < h.length := ho_l
      rw [← hHl]
      have g1 : (H ++ [wordO r.toNat])[H.length]? = some (wordO r.toNat) := by simp
      have hx := Sort.xorNext_toNat r
      have hrl := r.toNat_lt
      have hxl := Sort.xorNextN_lt r.toNat hrl
      have g2 : ∀ o o' : Ob, (H ++ [o]).set H.length o' = H ++ [o'] := fun o o' => by rw [hsetL rfl]; rfl
      have c1 : decide (a + L / 4 * 2 - 1 + m ≤ a + L / 4 * 2 + 1) = true := decide_eq_true (by omega)
      refine kont_of_hx cx_ok hb 200 ?_
      simp only [go_sem, simprocAttr, hgetA, hgetL, hgetLk, hsetA, hsetL, hsetLk, List.length_append, List.length_set, List.append_assoc, List.set_set, f0, f1, f2, f3, f5, c1]
      refine kont_callH hb fn132 rfl ?_ (xs_ok r.toNat g1 hrl) rfl fun d h hR => ?_
      · simp only [go_sem, simprocAttr, g2]
      obtain ⟨rfl, rfl⟩ := hR
      refine kont_of_hx cx_ok hb 200 ?_
      simp only [go_sem, simprocAttr, g2]
      have wM : IntKind.u64.wrap ((M : Int) - 1) = ((M - 1 : Nat) : Int) := by rw [IntKind.wrap_u64]; omega
      generalize hxx : Sort.xorNextN r.toNat = x at *
      have wA : bits .and .u64 (x : Int) ((M - 1 : Nat) : Int) = ((x &&& (M - 1) : Nat) : Int) := u64_and_nat x (M - 1) hxl (by omega)
      have yb : x &&& (M - 1) ≤ M - 1 := Nat.and_le_right
      generalize hy : x &&& (M - 1) = y at *
      have wI : IntKind.i64.wrap ((y : Nat) : Int) = ((y : Nat) : Int) := by rw [wrap64 (by omega) (by omega)]
      have k0 : IntKind.i64.wrap (((y : Nat) : Int) - L) = ((y - L : Nat) : Int) ∨ ¬ L ≤ y := by
        by_cases q : L ≤ y
        · left; rw [wrap64 (by omega) (by omega)]; omega
        · right; exact q
      have k4 : IntKind.i64.wrap (((a + L / 4 * 2 - 1 + m : Nat) : Int) + 1) = ((a + L / 4 * 2 - 1 + (m + 1) : Nat) : Int) := by rw [wrap64 (by omega) (by omega)]; omega
      simp only [go_sem, simprocAttr, wM, wA, wI]
      by_cases cL : L ≤ y
      · replace k0 := k0.resolve_right (fun q => q cL)
        have c2 : decide (L ≤ y) = true := decide_eq_true cL
        have hbs : Sort.breakStep a L M (r, dm) (a + L / 4 * 2 - 1 + m) = (Sort.xorNext r, Sort.swp dm (a + L / 4 * 2 - 1 + m) (a + (y - L))) := by
          unfold Sort.breakStep
          dsimp only
          rw [hx, hy, if_pos cL]
        have k1 : a + L / 4 * 2 - 1 + m < d.size := by omega
        have k2 : a + (y - L) < d.size := by omega
        have k3 : IntKind.i64.wrap ((a : Int) + ((y - L) : Nat)) = ((a + (y - L) : Nat) : Int) := by rw [wrap64 (by omega) (by omega)]; omega
        simp only [go_sem, simprocAttr, c2, k0]
        refine kont_haxFJ (⟨[(0, .ref lo g 0 d.size), (1, dint a), (6, dint L), (7, .ptr H.length 0 0 0), (8, u64 M), (9, dint (a + L / 4 * 2 - 1 + m : Nat))], H.set lo (arrO g (Sort.swp dm (a + L / 4 * 2 - 1 + m) (a + (y - L)))) ++ [wordO x]⟩) cx_ok hb mixed [(0, true), (1, true), (2, true), (3, true), (4, true), (6, true), (7, true), (8, true), (9, true), (10, true), (11, true), (12, true), (13, true), (14, true), (15, true), (16, true)] [5, 17, 18, 19] (by kernel_rfl) (by kernel_rfl) (fun s hw => kont_weak hw rfl ?_) ?_
        rotate_left
        · simp only [go_sem, simprocAttr, hgetA, hgetL, hgetLk, hsetA, hsetL, hsetLk, List.length_append, List.length_set, List.append_assoc, List.set_set, hlm, hlm_l, hsz, k1, k2, k3, hgetA hlm_l, hsetA hlm_l, hgetS hlm_l, List.set_set, dropB, List.length_set, hgetA (show lo < (H.set lo (arrO g dm)).length by simp; exact hlm_l)]
          rw [obj_swp g dm _ _ _ hsz k1 k2]
          repeat' refine And.intro ?_ ?_
          all_goals exact Weak.frame (by simp only [go_sem, simprocAttr])
        refine kont_of_hx cx_ok hb 200 ?_
        simp only [go_sem, simprocAttr, k4]
        refine ⟨by omega, _, ?_, by omega, rfl⟩
        rw [stp, hbs, ← hH, List.set_set, hx]
        rw [← hH] at hHl
        rw [hHl]
        exact Weak.frame (by simp only [go_sem, simprocAttr])
      · have c2 : decide (L ≤ y) = false := decide_eq_false cL
        have hbs : Sort.breakStep a L M (r, dm) (a + L / 4 * 2 - 1 + m) = (Sort.xorNext r, Sort.swp dm (a + L / 4 * 2 - 1 + m) (a + y)) := by
          unfold Sort.breakStep
          dsimp only
          rw [hx, hy, if_neg cL]
        have k1 : a + L / 4 * 2 - 1 + m < d.size := by omega
        have k2 : a + y < d.size := by omega
        have k3 : IntKind.i64.wrap ((a : Int) + (y : Nat)) = ((a + y : Nat) : Int) := by rw [wrap64 (by omega) (by omega)]; omega
        simp only [go_sem, simprocAttr, c2]
        refine kont_haxFJ (⟨[(0, .ref lo g 0 d.size), (1, dint a), (6, dint L), (7, .ptr H.length 0 0 0), (8, u64 M), (9, dint (a + L / 4 * 2 - 1 + m : Nat))], H.set lo (arrO g (Sort.swp dm (a + L / 4 * 2 - 1 + m) (a + y))) ++ [wordO x]⟩) cx_ok hb mixed [(0, true), (1, true), (2, true), (3, true), (4, true), (6, true), (7, true), (8, true), (9, true), (10, true), (11, true), (12, true), (13, true), (14, true), (15, true), (16, true)] [5, 17, 18, 19] (by kernel_rfl) (by kernel_rfl) (fun s hw => kont_weak hw rfl ?_) ?_
        rotate_left
        · simp only [go_sem, simprocAttr, hgetA, hgetL, hgetLk, hsetA, hsetL, hsetLk, List.length_append, List.length_set, List.append_assoc, List.set_set, hlm, hlm_l, hsz, k1, k2, k3, hgetA hlm_l, hsetA hlm_l, hgetS hlm_l, List.set_set, dropB, List.length_set, hgetA (show lo < (H.set lo (arrO g dm)).length by simp; exact hlm_l)]
          rw [obj_swp g dm _ _ _ hsz k1 k2]
          repeat' refine And.intro ?_ ?_
          all_goals exact Weak.frame (by simp only [go_sem, simprocAttr])
        refine kont_of_hx cx_ok hb 200 ?_
        simp only [go_sem, simprocAttr, k4]
        refine ⟨by omega, _, ?_, by omega, rfl⟩
        rw [stp, hbs, ← hH, List.set_set, hx]
        rw [← hH] at hHl
        rw [hHl]
        exact Weak.frame (by simp only [go_sem, simprocAttr])
    · obtain rfl : m = 3 := by omega
      have c1 : decide (a + L / 4 * 2 - 1 + 2 ≤ a + L / 4 * 2) = false := decide_eq_false (by omega)
      refine kont_of_hx cx_ok hb 200 ?_
      simp only [go_sem, simprocAttr, hgetA, hgetL, hgetLk, hsetA, hsetL, hsetLk, List.length_append, List.length_set, List.append_assoc, List.set_set, f0, f1, f2, f3, f5, c1]
      try exact ⟨_, rfl⟩
  · have d8 : decide ((8 : Int) ≤ (b - a : Nat)) = false := decide_eq_false (by omega)
    have e : Sort.breakPatterns d a b = d := by
      unfold Sort.breakPatterns
      dsimp only
      rw [if_neg c8]
    rw [e]
    refine MFn_hx cx_ok 200 Tryz.func123 rfl Tryz.ntmps123 Tryz.results123 rfl fun base w pl hb => ?_
    have ho_l := hlt ho
    simp only [go_sem, simprocAttr, hgetA, hgetL, hgetLk, hsetA, hsetL, hsetLk, List.length_append, List.length_set, List.append_assoc, List.set_set, ho, ho_l, e0, d8]
    exact ⟨[], by rw [List.append_nil]; exact (setU_same ho).symm⟩
end
end Go.Fg.X
